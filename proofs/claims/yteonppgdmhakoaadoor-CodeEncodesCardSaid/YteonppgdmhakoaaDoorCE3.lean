/- What a proof of this seat needs, laid together by a program of the session's. No conditions. -/
import Derived.Test.YteonppgdmhakoaaDoorCE2
import Derived.Lib.SlBytesConst
namespace Go.Proofs.YteonppgdmhakoaaDoor.PC
open Go.RowKit Go.Proofs.YteonppgdmhakoaaDoorW.PrintWords Go.Proofs.YteonppgdmhakoaaDoorW.PrintLast Go.Proofs.YteonppgdmhakoaaDoorW.PrintMore
set_option linter.unusedVariables false
set_option linter.unusedSimpArgs false
abbrev kB : Kd Int := Kd.int .u8
def byteI (x : Int) : Int := x % 256
def Keep5 (W w' : World) : Prop := ∀ (g : Nat) (cs : Array Value) (t : TypeId) (m : Nat × Nat), t ≠ 5 → W.heap[g]? = some (Obj.cells cs t m) → w'.heap[g]? = some (Obj.cells cs t m)
theorem Keep5.refl (W : World) : Keep5 W W := fun _ _ _ _ _ h => h
theorem Keep5.trans {a b c : World} (h : Keep5 a b) (h' : Keep5 b c) : Keep5 a c := fun g cs t m ht hg => h' g cs t m ht (h g cs t m ht hg)
theorem Keep5.below {W w' : World} (h : Below W.heap.size W w') : Keep5 W w' := fun g cs t m _ hg => (h.block g (blk_lt hg)).trans hg
theorem Keep5.grown {W w' : World} {base : Nat} {ok : Nat → Prop} {v : Value} {bs : List Int} (hO : kB.R 5 W base ok v bs) (h : W.grownBy w' v.ownBlock) : Keep5 W w' := fun g cs t m ht hg => by
 obtain ⟨_, inner, ho, _⟩ := hO
 refine blk_grown hg h fun e => ?_
 obtain ⟨cells, hc⟩ := own_typed ho g e.symm
 rw [hg] at hc
 injection hc with hc
 injection hc with _ hc
 exact ht hc
def PutPost (Wz W : World) (bs more : List Int) (e : Ending) (w' : World) : Prop := ∃ v', e = .returned v' ∧ kB.R 5 w' Wz.heap.size (fun _ => True) v' (bs ++ more) ∧ Below Wz.heap.size Wz w' ∧ Keep5 W w'
set_option maxHeartbeats 8000000 in
theorem put_var (f i : Nat) (hof : ∀ (q : Addr) (w : World), Calls Tryd.prog f #[.pointer (some q)] w fun e w' => e = .returned (.pointer (some ⟨q.block, q.off + i, none⟩)) ∧ w = w') (hf : f = 69 ∨ f = 70 ∨ f = 71)
  (b1 : Nat) (qx : Addr) (x : Int) (v : Value) (bs : List Int) (Wz W : World) (hWz : Below Wz.heap.size Wz W) (hO : kB.R 5 W Wz.heap.size (fun _ => True) v bs) (hl : bs.length ≤ 100000000000000) (hx : W.cell? ⟨qx.block, qx.off + i, none⟩ = some (.int .i64 x)) (hb : W.heap[b1]? = some (.cells #[.func (Fn.func f) #[] #[]] 108 (0, 0))) :
  Calls Tryd.prog 98 #[v, .pointer (some qx), .pointer (some ⟨b1, 0, none⟩)] W fun e w' => PutPost Wz W bs [byteI x] e w' := by
 have hb0 : W.cell? ⟨b1, 0, none⟩ = some (.func (Fn.func f) #[] #[]) := (bZ hb 0).trans rfl
 have HC := Az.mk hof
 have HO := Az.mk hO
 have HWz := Az.mk hWz
 have HL : Az ((bs.length + 1) * 1 ≤ 140737488355328) := ⟨by omega⟩
 obtain ⟨Av, cv, rfl⟩ := Kd.R_slice hO
 clear hof hb hO hWz hl
 rcases hf with rfl | rfl | rfl
 all_goals
  go_enter Tryd.func98, Tryd.ntmps98
  go_wp2_with (first | (go_at_call 69; refine (HC.out _ _).mono ?_; rintro e w' ⟨rfl, rfl⟩) | (go_at_call 70; refine (HC.out _ _).mono ?_; rintro e w' ⟨rfl, rfl⟩) | (go_at_call 71; refine (HC.out _ _).mono ?_; rintro e w' ⟨rfl, rfl⟩) | ((with_reducible refine gate_builtin (b := .append) (xs := #[.tmp 6, .tmp 13]) rfl ?_); at_builtin; refine Kd.R_append (Kd.int .u8) (w0 := W) Wz.heap.size rfl (.tmp 6) (.tmp 13) 33 5 (.int .u8 0) 1 rfl Tryd.underlying33 info5 rfl (by decide) (by omega) (.slice Av bs.length cv) (bs) (x % 256) [.int .u8 (x % 256)] (fun _ => True) (fun _ => False) rfl rfl ?aP (fun _ hk => hk.elim) ?aF ?aO ?aB ?aS ?aL ?_; (case aP => exact rfl); (case aB => exact Below.refl _ _); (case aF => exact (fun _ _ => trivial)); (case aO => exact HO.out); (case aS => exact HWz.out.size); (case aL => exact HL.out); intro v1 wv ho hb hg hat; have HBv := Az.mk (HWz.out.trans hb); have HOv := Az.mk ho; have HKv := Az.mk (Keep5.grown HO.out hg); clear ho hb hg hat))
  go_ret
  exact ⟨_, rfl, HOv.out, HBv.out, HKv.out⟩
theorem map_next (r : List Int) (k : Nat) (h : k < r.length) : (r.take (k + 1)).map byteI = (r.take k).map byteI ++ [byteI r[k]] := by
 rw [List.take_succ_eq_append_getElem h, List.map_append]
 rfl
theorem rd_at (r : List Int) (k : Nat) (h : k < r.length) : rd r (k : Int) = r[k] := by
 unfold rd
 rw [List.getD_eq_getElem?_getD]
 simp [List.getElem?_eq_getElem h]
set_option maxHeartbeats 8000000 in
theorem put_list (f i : Nat) (hof : ∀ (q : Addr) (w : World), Calls Tryd.prog f #[.pointer (some q)] w fun e w' => e = .returned (.pointer (some ⟨q.block, q.off + i, none⟩)) ∧ w = w') (hf : f = 81 ∨ f = 83)
  (b4 : Nat) (qx : Addr) (A : Option Addr) (c : Nat) (l : List Int) (v : Value) (bs : List Int) (Wz W : World) (hWz : Below Wz.heap.size Wz W) (hO : kB.R 5 W Wz.heap.size (fun _ => True) v bs) (hl : bs.length + l.length ≤ 100000000000000) (hx : Wz.cell? ⟨qx.block, qx.off + i, none⟩ = some (.slice A l.length c)) (hA : (Kd.int .i64).C Wz A l.length l) (hb : Wz.heap[b4]? = some (.cells #[.func (Fn.func f) #[] #[]] 113 (0, 0))) :
  Calls Tryd.prog 104 #[v, .pointer (some qx), .pointer (some ⟨b4, 0, none⟩)] W fun e w' => PutPost Wz W bs (byteI l.length :: l.map byteI) e w' := by
 have HX := Az.mk hx
 have HBk := Az.mk (show Wz.cell? ⟨b4, 0, none⟩ = some (.func (Fn.func f) #[] #[]) from (bZ hb 0).trans rfl)
 have hx0 := cZ hWz HX.out
 have hb0 := cZ hWz HBk.out
 have HC := Az.mk hof
 have HO := Az.mk hO
 have HWz := Az.mk hWz
 have HA := Az.mk hA
 have hm : l.length ≤ 9223372036854775807 := Kd.C_max hA
 have HLl := Az.mk hl
 have HL : Az ((bs.length + 1) * 1 ≤ 140737488355328) := ⟨by omega⟩
 obtain ⟨n, hn⟩ : ∃ n, n = l.length := ⟨_, rfl⟩
 have Hn := Az.mk hn
 obtain ⟨Av, cv, rfl⟩ := Kd.R_slice hO
 rw [← hn] at hx0 hm HX ⊢
 clear hof hb hO hWz hl hx hA hn
 rcases hf with rfl | rfl
 all_goals
  go_enter Tryd.func104, Tryd.ntmps104
  go_wp2_with (first | (go_at_call 81; refine (HC.out _ _).mono ?_; rintro e w' ⟨rfl, rfl⟩) | (go_at_call 83; refine (HC.out _ _).mono ?_; rintro e w' ⟨rfl, rfl⟩) | ((with_reducible refine gate_builtin (b := .append) (xs := #[.tmp 8, .tmp 16]) rfl ?_); at_builtin; refine Kd.R_append (Kd.int .u8) (w0 := W) Wz.heap.size rfl (.tmp 8) (.tmp 16) 33 5 (.int .u8 0) 1 rfl Tryd.underlying33 info5 rfl (by decide) (by omega) (.slice Av bs.length cv) (bs) ((n : Int) % 256) [.int .u8 ((n : Int) % 256)] (fun _ => True) (fun _ => False) rfl rfl ?aP (fun _ hk => hk.elim) ?aF ?aO ?aB ?aS ?aL ?_; (case aP => exact rfl); (case aB => exact Below.refl _ _); (case aF => exact (fun _ _ => trivial)); (case aO => exact HO.out); (case aS => exact HWz.out.size); (case aL => exact HL.out); intro v1 wv ho hb hg hat; have HBv := Az.mk (HWz.out.trans hb); have HOv := Az.mk ho; have HKv := Az.mk (Keep5.grown HO.out hg); have hx1 := cZ HBv.out HX.out; have hb1 := cZ HBv.out HBk.out; clear HO HWz; clear ho hb hg hat))
  clear hx1 hb1
  go_loopw [0, 24] (fun v0 v24 w' => ∃ k : Nat, k ≤ n ∧ v24 = .int .i64 (k : Int) ∧ Az (kB.R 5 w' Wz.heap.size (fun _ => True) v0 (bs ++ [byteI n] ++ (l.take k).map byteI)) ∧ Az (Below Wz.heap.size Wz w') ∧ Az (Keep5 W w')) (fun _ i _ => n - (intOf i).toNat)
  case atStart => exact ⟨0, Nat.zero_le _, rfl, ⟨by simpa [byteI] using HOv.out⟩, HBv, HKv⟩
  case round =>
   obtain ⟨k, hk, rfl, HO2, HB2, HK2⟩ := hrel
   clear HOv HBv HKv
   obtain ⟨E, hE⟩ : ∃ E, E = bs ++ [byteI n] ++ (l.take k).map byteI := ⟨_, rfl⟩
   have HE := Az.mk hE
   rw [← hE] at HO2
   clear hE
   by_cases hkt : k < n
   ·have k0 : (0 : Int) ≤ k := by omega
    have k1 : (k : Int) < n := by omega
    have hwk : wrap64 ((k : Int) + 1) = (k : Int) + 1 := wrap_in (by omega) (by omega)
    have hkl : k < l.length := by rw [← Hn.out]; exact hkt
    obtain ⟨ad, e0, hrx⟩ := Kd.at_int (Kd.C_below HA.out HB2.out) (k : Int) k0 (by rw [← Hn.out]; exact k1)
    cases e0
    simp only [Int.toNat_natCast] at hrx
    rw [rd_at l k hkl] at hrx
    have HM := Az.mk (map_next l k hkl)
    obtain ⟨rk, hrk⟩ : ∃ rk, rk = l[k] := ⟨_, rfl⟩
    rw [← hrk] at hrx HM
    have HLn2 : Az ((E.length + 1) * 1 ≤ 140737488355328) := ⟨by rw [HE.out]; simp only [List.length_append, List.length_map, List.length_take, List.length_singleton]; have := HLl.out; omega⟩
    clear hrk
    go_wp2_with ((with_reducible refine gate_builtin (b := .append) (xs := #[.tmp 28, .tmp 31]) rfl ?_); at_builtin; refine Kd.R_append (Kd.int .u8) (w0 := wr) Wz.heap.size rfl (.tmp 28) (.tmp 31) 33 5 (.int .u8 0) 1 rfl Tryd.underlying33 info5 rfl (by decide) (by omega) (u0) (E) (rk % 256) [.int .u8 (rk % 256)] (fun _ => True) (fun _ => False) rfl rfl ?aP (fun _ hk => hk.elim) ?aF ?aO ?aB ?aS ?aL ?_; (case aP => exact rfl); (case aB => exact Below.refl _ _); (case aF => exact (fun _ _ => trivial)); (case aO => exact HO2.out); (case aS => exact HB2.out.size); (case aL => exact HLn2.out); intro v1 wv ho hb hg hat; have HBv := Az.mk (HB2.out.trans hb); have HOv := Az.mk ho; have HKv := Az.mk (HK2.out.trans (Keep5.grown HO2.out hg)); clear ho hb hg hat)
    have HO3 : Az (kB.R 5 wv Wz.heap.size (fun _ => True) v1 (bs ++ [byteI n] ++ (l.take (k + 1)).map byteI)) := ⟨by rw [HM.out, ← List.append_assoc, ← HE.out]; exact HOv.out⟩
    clear HOv
    go_roundw
    case rel => exact ⟨k + 1, by omega, by go_num, HO3, HBv, HKv⟩
    case measure => simp [intOf]; omega
   ·obtain rfl : n = k := by omega
    have HE2 : Az (E = bs ++ (byteI n :: l.map byteI)) := ⟨by rw [HE.out, Hn.out, List.take_of_length_le (Nat.le_refl _), List.append_assoc]; rfl⟩
    go_wp2_with fail
    go_ret
    exact ⟨_, rfl, by rw [← HE2.out]; exact HO2.out, HB2.out, HK2.out⟩
def tabL : List Int := [0, 8, 0, 0, 0, 0, 1, 1, 1, 1, 1, 2, 0, 2, 2]
def Tab (w : World) : Prop := ∀ i : Nat, i < 15 → w.cell? ⟨0, i, none⟩ = some (.int .i64 (tabL.getD i 0))
theorem Tab.below {w w' : World} (h : Tab w) (hb : Below w.heap.size w w') : Tab w' := fun i hi => cZ hb (h i hi)
theorem tab_range (i : Nat) : 0 ≤ tabL.getD i 0 ∧ tabL.getD i 0 ≤ 8 := by
 by_cases h : i < 15
 ·have : ∀ i : Fin 15, 0 ≤ tabL.getD i.val 0 ∧ tabL.getD i.val 0 ≤ 8 := by decide
  exact this ⟨i, h⟩
 ·rw [List.getD_eq_getElem?_getD, List.getElem?_eq_none (by show 15 ≤ i; omega)]
  decide
def numB (x : Int) (m : Nat) : List Int := (List.range m).map fun i => byteI (x / 2 ^ (8 * i))
theorem numB_len (x : Int) (m : Nat) : (numB x m).length = m := by unfold numB; simp
theorem numB_next (x : Int) (m : Nat) : numB x (m + 1) = numB x m ++ [byteI (x / 2 ^ (8 * m))] := by unfold numB; rw [List.range_succ, List.map_append]; rfl
set_option maxRecDepth 100000 in
set_option maxHeartbeats 8000000 in
theorem put_num (qx : Addr) (op : Nat) (N : Int) (v : Value) (bs : List Int) (Wz W : World) (hWz : Below Wz.heap.size Wz W) (hO : kB.R 5 W Wz.heap.size (fun _ => True) v bs) (hl : bs.length ≤ 100000000000000) (hT : Tab Wz) (hop : op < 15)
  (h0 : Wz.cell? qx = some (.int .i64 op)) (h4 : Wz.cell? ⟨qx.block, qx.off + 4, none⟩ = some (.int .i64 N)) :
  Calls Tryd.prog 100 #[v, .pointer (some qx)] W fun e w' => PutPost Wz W bs (numB N (tabL.getD op 0).toNat) e w' := by
 have HT := Az.mk hT
 have H4 := Az.mk h4
 have ht := cZ hWz (hT op hop)
 have hx0 := cZ hWz h0
 have HO := Az.mk hO
 have HWz := Az.mk hWz
 have HLl := Az.mk hl
 have o0 : (0 : Int) ≤ (op : Int) := by omega
 have o1 : (op : Int) < 15 := by omega
 obtain ⟨M, hM⟩ : ∃ M, M = tabL.getD op 0 := ⟨_, rfl⟩
 have hMr := tab_range op
 rw [← hM] at ht hMr
 have HM := Az.mk hM
 obtain ⟨m, rfl⟩ : ∃ m : Nat, M = (m : Int) := ⟨M.toNat, by omega⟩
 have hm8 : m ≤ 8 := by omega
 obtain ⟨Av, cv, rfl⟩ := Kd.R_slice hO
 clear hO hWz hl hT h0 h4 hM hMr
 go_enter Tryd.func100, Tryd.ntmps100
 go_wp2_with fail
 clear ht hx0
 go_loopw [0, 12] (fun v0 v12 w' => ∃ k : Nat, k ≤ m ∧ v12 = .int .i64 (k : Int) ∧ Az (kB.R 5 w' Wz.heap.size (fun _ => True) v0 (bs ++ numB N k)) ∧ Az (Below Wz.heap.size Wz w') ∧ Az (Keep5 W w')) (fun _ i _ => m - (intOf i).toNat)
 case atStart => exact ⟨0, Nat.zero_le _, rfl, ⟨by simpa [numB] using HO.out⟩, HWz, ⟨Keep5.refl W⟩⟩
 case round =>
  obtain ⟨k, hk, rfl, HO2, HB2, HK2⟩ := hrel
  clear HO HWz
  obtain ⟨E, hE⟩ : ∃ E, E = bs ++ numB N k := ⟨_, rfl⟩
  have HE := Az.mk hE
  rw [← hE] at HO2
  clear hE
  by_cases hkt : k < m
  ·have k0 : (0 : Int) ≤ k := by omega
   have k1 : (k : Int) < m := by omega
   have hwk : wrap64 ((k : Int) + 1) = (k : Int) + 1 := wrap_in (by omega) (by omega)
   have hw8 : wrap64 (8 * (k : Int)) = 8 * (k : Int) := wrap_in (by omega) (by omega)
   have h80 : (0 : Int) ≤ 8 * (k : Int) := by omega
   have h4 := cZ HB2.out H4.out
   have HLn2 : Az ((E.length + 1) * 1 ≤ 140737488355328) := ⟨by rw [HE.out, List.length_append, numB_len]; have := HLl.out; omega⟩
   go_wp2_with ((with_reducible refine gate_builtin (b := .append) (xs := #[.tmp 15, .tmp 24]) rfl ?_); at_builtin; refine Kd.R_append (Kd.int .u8) (w0 := wr) Wz.heap.size rfl (.tmp 15) (.tmp 24) 33 5 (.int .u8 0) 1 rfl Tryd.underlying33 info5 rfl (by decide) (by omega) (u0) (E) (N / 2 ^ (8 * k) % 256) [.int .u8 (N / 2 ^ (8 * k) % 256)] (fun _ => True) (fun _ => False) rfl rfl ?aP (fun _ hk => hk.elim) ?aF ?aO ?aB ?aS ?aL ?_; (case aP => exact rfl); (case aB => exact Below.refl _ _); (case aF => exact (fun _ _ => trivial)); (case aO => exact HO2.out); (case aS => exact HB2.out.size); (case aL => exact HLn2.out); intro v1 wv ho hb hg hat; have HBv := Az.mk (HB2.out.trans hb); have HOv := Az.mk ho; have HKv := Az.mk (HK2.out.trans (Keep5.grown HO2.out hg)); clear ho hb hg hat)
   have HO3 : Az (kB.R 5 wv Wz.heap.size (fun _ => True) v1 (bs ++ numB N (k + 1))) := ⟨by rw [numB_next, ← List.append_assoc, ← HE.out]; exact HOv.out⟩
   clear HOv hw8 h80 h4
   go_roundw
   case rel => exact ⟨k + 1, by omega, by go_num, HO3, HBv, HKv⟩
   case measure => simp [intOf]; omega
  ·obtain rfl : m = k := by omega
   have HE2 : Az (E = bs ++ numB N (tabL.getD op 0).toNat) := ⟨by rw [← HM.out, Int.toNat_natCast]; exact HE.out⟩
   go_wp2_with fail
   go_ret
   exact ⟨_, rfl, by rw [← HE2.out]; exact HO2.out, HB2.out, HK2.out⟩
def putB (x : S50) : PK → List Int
 | .R => [byteI x.f1]
 | .S => [byteI x.f2]
 | .T => [byteI x.f3]
 | .args | .vals => byteI x.f5.length :: x.f5.map byteI
 | .rets => byteI x.f6.length :: x.f6.map byteI
 | _ => numB x.f4 (tabL.getD x.f0.toNat 0).toNat
def numK : PK → Bool
 | .int | .fields | .field | .glob | .func | .jump => true
 | _ => false
theorem num_op {op j : Nat} {k : PK} (h : (partsOf op)[j]? = some k) (hn : numK k = true) : op < 15 := by
 unfold partsOf at h
 rcases op with _ | _ | _ | _ | _ | _ | _ | _ | _ | _ | _ | _ | _ | _ | _ | _ | _ | _ | op <;> first | omega | (rcases j with _ | _ | _ | j <;> simp at h <;> subst h <;> cases hn)
theorem ent98 : Enters 98 := fun _ _ => enters_ Tryd.func98 (by kernel_rfl) (by kernel_rfl) _ _
theorem ent100 : Enters 100 := fun _ _ => enters_ Tryd.func100 (by kernel_rfl) (by kernel_rfl) _ _
theorem ent104 : Enters 104 := fun _ _ => enters_ Tryd.func104 (by kernel_rfl) (by kernel_rfl) _ _
theorem put_part (k : PK) (c0 c1 c2 c3 : Value) (qx : Addr) (x : S50) (A5 : Option Addr) (c5 : Nat) (A6 : Option Addr) (c6 : Nat) (op j : Nat) (Wz : World) (hp : PartIs Wz k [c0, c1, c2, c3]) (hT : Tab Wz) (hx : InsW Wz qx x A5 c5 A6 c6) (h5 : (Kd.int .i64).C Wz A5 x.f5.length x.f5) (h6 : (Kd.int .i64).C Wz A6 x.f6.length x.f6) (hop : x.f0 = (op : Int)) (hk : (partsOf op)[j]? = some k) :
  ∃ fn cap, c2 = .func (Fn.func fn) #[] cap ∧ Enters fn ∧ ∀ (v : Value) (bs : List Int) (W : World), Below Wz.heap.size Wz W → kB.R 5 W Wz.heap.size (fun _ => True) v bs → bs.length + (putB x k).length ≤ 100000000000000 → Calls Tryd.prog fn (#[v, .pointer (some qx)] ++ cap) W fun e w' => PutPost Wz W bs (putB x k) e w' := by
 have hnum : numK k = true → ∀ (v : Value) (bs : List Int) (W : World), Below Wz.heap.size Wz W → kB.R 5 W Wz.heap.size (fun _ => True) v bs → bs.length + (putB x k).length ≤ 100000000000000 → Calls Tryd.prog 100 #[v, .pointer (some qx)] W fun e w' => PutPost Wz W bs (numB x.f4 (tabL.getD x.f0.toNat 0).toNat) e w' := by
  intro hn v bs W hW hO hl
  have e : x.f0.toNat = op := by rw [hop]; exact Int.toNat_natCast op
  rw [e]
  exact put_num qx op x.f4 v bs Wz W hW hO (by omega) hT (num_op hk hn) (by rw [← hop]; exact hx.1) hx.2.2.2.2.1
 cases k
 case R =>
  obtain ⟨b1, b2, he, h1, _⟩ := hp
  injection he with _ he; injection he with _ he; injection he with he _
  exact ⟨98, _, he, ent98, fun v bs W hW hO hl => put_var 69 1 of69 (.inl rfl) b1 qx x.f1 v bs Wz W hW hO (by omega) (cZ hW hx.2.1) (kZ h1 hW)⟩
 case S =>
  obtain ⟨b1, b2, he, h1, _⟩ := hp
  injection he with _ he; injection he with _ he; injection he with he _
  exact ⟨98, _, he, ent98, fun v bs W hW hO hl => put_var 70 2 of70 (.inr (.inl rfl)) b1 qx x.f2 v bs Wz W hW hO (by omega) (cZ hW hx.2.2.1) (kZ h1 hW)⟩
 case T =>
  obtain ⟨b1, b2, he, h1, _⟩ := hp
  injection he with _ he; injection he with _ he; injection he with he _
  exact ⟨98, _, he, ent98, fun v bs W hW hO hl => put_var 71 3 of71 (.inr (.inr rfl)) b1 qx x.f3 v bs Wz W hW hO (by omega) (cZ hW hx.2.2.2.1) (kZ h1 hW)⟩
 case int =>
  obtain ⟨b1, he, h1⟩ := hp
  injection he with _ he; injection he with _ he; injection he with he _
  exact ⟨100, #[], he, ent100, hnum rfl⟩
 case args =>
  have hlen : (putB x .args).length = x.f5.length + 1 := by simp [putB]
  obtain ⟨b4, b5, he, h4, h5b⟩ := hp
  injection he with _ he; injection he with _ he; injection he with he _
  exact ⟨104, _, he, ent104, fun v bs W hW hO hl => put_list 81 5 of81 (.inl rfl) b4 qx A5 c5 x.f5 v bs Wz W hW hO (by omega) hx.2.2.2.2.2.1 h5 h4⟩
 case vals =>
  have hlen : (putB x .vals).length = x.f5.length + 1 := by simp [putB]
  obtain ⟨b4, b5, he, h4, h5b⟩ := hp
  injection he with _ he; injection he with _ he; injection he with he _
  exact ⟨104, _, he, ent104, fun v bs W hW hO hl => put_list 81 5 of81 (.inl rfl) b4 qx A5 c5 x.f5 v bs Wz W hW hO (by omega) hx.2.2.2.2.2.1 h5 h4⟩
 case rets =>
  have hlen : (putB x .rets).length = x.f6.length + 1 := by simp [putB]
  obtain ⟨b4, b5, he, h4, h5b⟩ := hp
  injection he with _ he; injection he with _ he; injection he with he _
  exact ⟨104, _, he, ent104, fun v bs W hW hO hl => put_list 83 6 of83 (.inr rfl) b4 qx A6 c6 x.f6 v bs Wz W hW hO (by omega) hx.2.2.2.2.2.2 h6 h4⟩
 all_goals
  obtain ⟨b1, b3, b4, b5, he, _⟩ := hp
  injection he with _ he; injection he with _ he; injection he with he _
  exact ⟨100, #[], he, ent100, hnum rfl⟩
def instrB (x : S50) : List Int := byteI x.f0 :: (partsOf x.f0.toNat).flatMap (putB x)
def headL (f : S46) : List Int := [byteI f.f0, byteI f.f1, byteI f.f2, byteI f.f3.length, byteI ((f.f3.length : Int) / 256)]
def topL (G : Int) (fs : List S46) : List Int := [102, 117, 103, 117, 101, 1] ++ [byteI G, byteI fs.length, byteI ((fs.length : Int) / 256)]
def encB (G : Int) (fs : List S46) : List Int := topL G fs ++ fs.flatMap headL ++ fs.flatMap (fun f => f.f3.flatMap instrB)
theorem iter_all {step : Nat → Int → Int × Int} {n : Nat} {l : Int} (h : (iter step n l).1 = 0) (q : Nat) (hq : q < n) : ∃ l1, iter step q l = (0, l1) ∧ (step q l1).1 = 0 := by
 have h1 : (iter step (q + 1) l).1 = 0 := by
  by_cases e : (iter step (q + 1) l).1 = 0
  ·exact e
  ·rw [iter_stop e n (by omega)] at h
   exact h
 have h0 : (iter step q l).1 = 0 := by
  by_cases e : (iter step q l).1 = 0
  ·exact e
  ·rw [iter_stop e (q + 1) (by omega)] at h1
   exact h1
 refine ⟨(iter step q l).2, Prod.ext h0 rfl, ?_⟩
 have h2 : iter step (q + 1) l = step q (iter step q l).2 := by
  show (if _ then _ else _) = _
  rw [if_pos h0]
 rw [← h2]
 exact h1
theorem first_ok {G : Int} {fs : List S46} (h : firstE G fs = 0) : funcsE fs.length = 0 ∧ (iter (headS fs) fs.length 0).1 = 0 ∧ (iter (codeS G fs) fs.length (iter (headS fs) fs.length 0).2).1 = 0 := by
 unfold firstE at h
 by_cases h1 : globE G = 0
 ·rw [if_pos h1] at h
  by_cases h2 : funcsE fs.length = 0
  ·rw [if_pos h2] at h
   by_cases h3 : (iter (headS fs) fs.length 0).1 = 0
   ·rw [if_pos h3] at h
    exact ⟨h2, h3, h⟩
   ·rw [if_neg h3] at h
    exact absurd h h3
  ·rw [if_neg h2] at h
   exact absurd h h2
 ·rw [if_neg h1] at h
  exact absurd h h1
theorem heads_ok {G : Int} {fs : List S46} (h : firstE G fs = 0) (i : Nat) (hi : i < fs.length) : headB fs[i].f0 fs[i].f1 fs[i].f2 fs[i].f3.length = true := by
 obtain ⟨l1, _, h1⟩ := iter_all (first_ok h).2.1 i hi
 unfold headS at h1
 rw [getD46 fs i hi] at h1
 replace h1 : headE l1 fs[i].f0 fs[i].f1 fs[i].f2 fs[i].f3.length = 0 := h1
 unfold headE at h1
 cases e : headB fs[i].f0 fs[i].f1 fs[i].f2 fs[i].f3.length with
 | true => rfl
 | false => rw [e, if_neg (by decide)] at h1; omega
theorem head_le {P R V n : Int} (h : headB P R V n = true) : P ≤ 8 ∧ R ≤ 4 ∧ n ≤ 4096 := by
 unfold headB at h
 simp only [Bool.and_eq_true, decide_eq_true_eq] at h
 omega
theorem instr_ok {G : Int} {fs : List S46} (h : firstE G fs = 0) (i : Nat) (hi : i < fs.length) (k : Nat) (hk : k < fs[i].f3.length) : ∃ l1, opE l1 fs[i].f3[k] (k + 1 == fs[i].f3.length) = 0 ∧ partsE G fs fs[i] fs[i].f3[k] = 0 := by
 obtain ⟨l1, _, h1⟩ := iter_all (first_ok h).2.2 i hi
 unfold codeS at h1
 rw [getD46 fs i hi] at h1
 obtain ⟨l2, _, h2⟩ := iter_all h1 k hk
 unfold instrS at h2
 rw [getD50 fs[i].f3 k hk] at h2
 refine ⟨l2, ?_⟩
 by_cases e : opE l2 fs[i].f3[k] (k + 1 == fs[i].f3.length) = 0
 ·rw [if_pos e] at h2
  exact ⟨e, h2⟩
 ·rw [if_neg e] at h2
  exact absurd h2 e
theorem list_len {W V : Int} {l : List Int} (h : listE W V l = 0) : (l.length : Int) = W := by
 unfold listE at h
 by_cases e : (l.length : Int) = W
 ·exact e
 ·rw [if_neg e] at h; omega
theorem part_len {G : Int} {fs : List S46} (h : firstE G fs = 0) (i : Nat) (hi : i < fs.length) (k : Nat) (hk : k < fs[i].f3.length) (j : Nat) (pk : PK) (hj : (partsOf fs[i].f3[k].f0.toNat)[j]? = some pk) : (putB fs[i].f3[k] pk).length ≤ 9 := by
 obtain ⟨l1, _, hp⟩ := instr_ok h i hi k hk
 obtain ⟨f, hf⟩ : ∃ f, f = fs[i] := ⟨_, rfl⟩
 have hh := head_le (heads_ok h i hi)
 unfold partsE at hp
 have hjl : j < (partsOf fs[i].f3[k].f0.toNat).length := by
  rcases Nat.lt_or_ge j (partsOf fs[i].f3[k].f0.toNat).length with g | g
  ·exact g
  ·rw [List.getElem?_eq_none g] at hj; cases hj
 obtain ⟨l2, hit, h2⟩ := iter_all hp j hjl
 obtain rfl : l2 = 0 := by
  have gen : ∀ n, (iter (partS G fs fs[i] fs[i].f3[k]) n 0).2 = 0 := by
   intro n
   induction n with
   | zero => rfl
   | succ n ih =>
    show (if _ then _ else _ : Int × Int).2 = 0
    by_cases e : (iter (partS G fs fs[i] fs[i].f3[k]) n 0).1 = 0
    ·rw [if_pos e]; exact ih
    ·rw [if_neg e]; exact ih
  have := gen j
  rw [hit] at this
  exact this
 have hm := may_ask (G := G) (f := fs[i]) j pk hj (by rw [hit])
 rw [partS_at rfl hj rfl] at h2
 replace h2 : partE G fs fs[i].f1 fs[i].f2 fs[i].f3.length fs[i].f3[k] pk = 0 := h2
 obtain ⟨x, hx⟩ : ∃ x, x = fs[i].f3[k] := ⟨_, rfl⟩
 rw [← hx] at h2 hm ⊢
 have htab := tab_range x.f0.toNat
 cases pk
 case args =>
  have h3 := list_len (show listE (fs.getD x.f4.toNat z46).f0 _ x.f5 = 0 from h2)
  have h4 := head_le (heads_ok h x.f4.toNat (by have := hm.1; have := hm.2; omega))
  rw [getD46 fs _ (by have := hm.1; have := hm.2; omega)] at h3
  simp only [putB, List.length_cons, List.length_map]
  omega
 case rets =>
  have h3 := list_len (show listE (fs.getD x.f4.toNat z46).f1 _ x.f6 = 0 from h2)
  have h4 := head_le (heads_ok h x.f4.toNat (by have := hm.1; have := hm.2; omega))
  rw [getD46 fs _ (by have := hm.1; have := hm.2; omega)] at h3
  simp only [putB, List.length_cons, List.length_map]
  omega
 case vals =>
  have h3 := list_len (show listE fs[i].f1 _ x.f5 = 0 from h2)
  simp only [putB, List.length_cons, List.length_map]
  omega
 all_goals
  simp only [putB, List.length_cons, List.length_nil, numB_len]
  omega
theorem flat_le {α : Type} (f : α → List Int) (c : Nat) : ∀ (l : List α), (∀ a ∈ l, (f a).length ≤ c) → (l.flatMap f).length ≤ c * l.length
 | [], _ => by simp
 | a :: l, h => by
  have h1 := h a List.mem_cons_self
  have h2 := flat_le f c l (fun b hb => h b (List.mem_cons_of_mem _ hb))
  rw [List.flatMap_cons, List.length_append, List.length_cons, Nat.mul_succ]
  omega
theorem parts_len {G : Int} {fs : List S46} (h : firstE G fs = 0) (i : Nat) (hi : i < fs.length) (k : Nat) (hk : k < fs[i].f3.length) (j : Nat) : (((partsOf fs[i].f3[k].f0.toNat).take j).flatMap (putB fs[i].f3[k])).length ≤ 27 := by
 have h3 := parts_le fs[i].f3[k].f0.toNat
 have h1 := flat_le (putB fs[i].f3[k]) 9 ((partsOf fs[i].f3[k].f0.toNat).take j) (fun a ha => by
  obtain ⟨q, hq, e⟩ := List.getElem_of_mem (List.mem_of_mem_take ha)
  exact part_len h i hi k hk q a (by rw [← e]; exact List.getElem?_eq_getElem hq))
 rw [List.length_take] at h1
 omega
theorem instr_len {G : Int} {fs : List S46} (h : firstE G fs = 0) (i : Nat) (hi : i < fs.length) (k : Nat) (hk : k < fs[i].f3.length) : (instrB fs[i].f3[k]).length ≤ 28 := by
 have h1 := parts_len h i hi k hk (partsOf fs[i].f3[k].f0.toNat).length
 rw [List.take_of_length_le (Nat.le_refl _)] at h1
 unfold instrB
 rw [List.length_cons]
 omega
theorem codeB_len {G : Int} {fs : List S46} (h : firstE G fs = 0) (i : Nat) (hi : i < fs.length) (k : Nat) : ((fs[i].f3.take k).flatMap instrB).length ≤ 114688 := by
 have h1 := flat_le instrB 28 (fs[i].f3.take k) (fun a ha => by
  obtain ⟨q, hq, e⟩ := List.getElem_of_mem (List.mem_of_mem_take ha)
  rw [← e]
  exact instr_len h i hi q hq)
 have h2 := (head_le (heads_ok h i hi)).2.2
 have h3 : (fs[i].f3.take k).length ≤ fs[i].f3.length := by rw [List.length_take]; omega
 omega
theorem codes_len {G : Int} {fs : List S46} (h : firstE G fs = 0) (q : Nat) : ((fs.take q).flatMap (fun f => f.f3.flatMap instrB)).length ≤ 114688 * 65535 := by
 have h1 := flat_le (fun f : S46 => f.f3.flatMap instrB) 114688 (fs.take q) (fun a ha => by
  obtain ⟨i, hi, e⟩ := List.getElem_of_mem (List.mem_of_mem_take ha)
  rw [← e]
  have := codeB_len h i hi fs[i].f3.length
  rwa [List.take_of_length_le (Nat.le_refl _)] at this)
 have h2 := (first_ok h).1
 unfold funcsE at h2
 have h3 : (fs.take q).length ≤ fs.length := by rw [List.length_take]; omega
 by_cases e : 1 ≤ (fs.length : Int) ∧ (fs.length : Int) ≤ 65535
 ·have : (fs.take q).length ≤ 65535 := by omega
  omega
 ·rw [if_neg e] at h2; omega
theorem headsB_len {G : Int} {fs : List S46} (h : firstE G fs = 0) (q : Nat) : ((fs.take q).flatMap headL).length ≤ 5 * 65535 := by
 have h1 := flat_le headL 5 (fs.take q) (fun a _ => by simp [headL])
 have h2 := (first_ok h).1
 unfold funcsE at h2
 have h3 : (fs.take q).length ≤ fs.length := by rw [List.length_take]; omega
 by_cases e : 1 ≤ (fs.length : Int) ∧ (fs.length : Int) ≤ 65535
 ·have : (fs.take q).length ≤ 65535 := by omega
  omega
 ·rw [if_neg e] at h2; omega
theorem u8_at (zs : List Int) (j : Nat) (v : Value) (h : (zs.map (Value.int .u8))[j]? = some v) : (zs.map (Value.int .u8)).toArray[j]? = some v := by
 rw [List.getElem?_toArray]; exact h
theorem u8_reps (w : World) (base : Nat) (ok : Nat → Prop) (zs : List Int) : Reps (kB.M w base ok) 1 zs (zs.map (Value.int .u8)) := by
 induction zs with
 | nil => exact Reps.none _ _
 | cons z zs ih => exact Reps.one (show kB.M _ _ _ z [.int .u8 z] from rfl) ih
theorem grow_marked (W : World) (base ty b q : Nat) (xs ys : List Int) (n m : Nat) (hn : n = xs.length) (hm : m = ys.length) (fz fy : Nat × Nat) (hb : W.heap[b]? = some (.cells (xs.map (Value.int .u8)).toArray 5 fz)) (hq : W.heap[q]? = some (.cells (ys.map (Value.int .u8)).toArray 5 fy)) (hy : 0 < m) (hbase : base ≤ W.heap.size) (hl : n + m ≤ 140737488355328) :
  ∃ v1 w1, (Builtin.append_ #[33, 33] ty #[.slice (some ⟨b, 0, none⟩) n n, .slice (some ⟨q, 0, none⟩) m m]).run Tryd.prog W = .ok v1 w1 ∧ kB.R 5 w1 base (fun _ => True) v1 (xs ++ ys) ∧ Below base W w1 := by
 obtain ⟨i0, hi, hzz⟩ := Option.map_eq_some_iff.1 info5
 simp only [Prod.mk.injEq] at hzz
 obtain ⟨hz0, hz1, hz2⟩ := hzz
 subst hn hm
 have holds : ∀ j v, (xs.map (Value.int .u8))[j]? = some v → W.cell? ((⟨b, 0, none⟩ : Addr).add j) = some v := fun j v h => by rw [Addr.add_lit]; exact (cell_of_row W b _ _ _ _ hb).trans (by simpa using u8_at xs j v h)
 have hnews : ∀ j v, (ys.map (Value.int .u8))[j]? = some v → W.cell? ((⟨q, 0, none⟩ : Addr).add j) = some v := fun j v h => by rw [Addr.add_lit]; exact (cell_of_row W q _ _ _ _ hq).trans (by simpa using u8_at ys j v h)
 have hr := run_append_grow (P := Tryd.prog) W 33 ty 5 i0 (.int .u8 0) Tryd.underlying33 hi hz0 ⟨b, 0, none⟩ xs.length xs.length _ (by rw [List.length_map, hz1, Nat.mul_one]) holds ⟨q, 0, none⟩ ys.length ys.length _ (by rw [List.length_map, hz1, Nat.mul_one]) hnews (by omega) (by omega) (growslice_fits (by omega) (by rw [hz2]; omega))
 refine ⟨_, _, hr, ⟨fun _ _ => trivial, (xs ++ ys).map (Value.int .u8), ⟨by rw [List.length_map]; exact (Nat.mul_one _).symm, .inr ⟨W.heap.size, grownCap W (xs.length + ys.length) xs.length 5, _, by rw [List.length_append], hbase, heap_alloc_new W.drew _, by rw [List.length_append]; exact grownCap_ge W (xs.length + ys.length) xs.length 5, grownCap_le_maxLen W _ _ 5 (by simp only [maxLen]; omega), ?_, ?_⟩⟩, u8_reps _ _ _ _⟩, ?_⟩
 ·have hge := grownCap_ge W (xs.length + ys.length) xs.length 5
  rw [Array.size_append, Array.size_append, List.size_toArray, List.size_toArray, size_zeroCells, List.length_map, List.length_map]
  show xs.length + ys.length + (grownCap W (xs.length + ys.length) xs.length 5 - (xs.length + ys.length)) * 1 = grownCap W (xs.length + ys.length) xs.length 5 * 1
  omega
 ·rw [Array.toList_append, Array.toList_append, List.toList_toArray, List.toList_toArray, ← List.map_append]
  exact List.take_left' (by rw [List.length_map]; exact (Nat.mul_one _).symm)
 ·exact ((Below.refl base W).drew).alloc hbase _
theorem wp_grow_marked {ops : Array Oper} {rest : List Oper} {o : Oper} {a : Act} {Q : Exit → Act → World → Prop} (W : World) (base b q : Nat) (xs ys : List Int) (n m : Nat) (hn : n = xs.length) (hm : m = ys.length) (fz fy : Nat × Nat) (hgd : o.guard = none) (s x : Operand) (ho : o.op = .call { callee := .builtin .append, args := #[s, x], argTypes := #[33, 33] }) (hs : a.eval s = .slice (some ⟨b, 0, none⟩) n n) (hx : a.eval x = .slice (some ⟨q, 0, none⟩) m m)
  (hb : W.heap[b]? = some (.cells (xs.map (Value.int .u8)).toArray 5 fz)) (hq : W.heap[q]? = some (.cells (ys.map (Value.int .u8)).toArray 5 fy)) (hy : 0 < m) (hbase : base ≤ W.heap.size) (hl : n + m ≤ 140737488355328)
  (h : ∀ v1 w1, kB.R 5 w1 base (fun _ => True) v1 (xs ++ ys) → Below base W w1 → wpList Tryd.prog ops Q rest (a.put o.dst v1) w1) : wpList Tryd.prog ops Q (o :: rest) a W := by
 obtain ⟨v1, w1, hr, hR, hB⟩ := grow_marked W base o.type b q xs ys n m hn hm fz fy hb hq hy hbase hl
 refine wpList_plain hgd fun K hK => ?_
 unfold Oper.wp execOp
 simp only [ho, resolve, invoke, builtin, Sem.run_bind, Sem.run_pure, Result.andThen_ok, List.map_toArray, List.map_cons, List.map_nil, hs, hx, hr]
 exact hK _ _ (h v1 w1 hR hB)
theorem wp_mark_bytes {ops : Array Oper} {rest : List Oper} {o : Oper} {a : Act} {Q : Exit → Act → World → Prop} (w : World) (C : Array Value) (n c : Nat) (hgd : o.guard = none) (x : Operand) (ho : o.op = .convert 33 33 x) (hx : a.eval x = .slice (some ⟨w.heap.size, 0, none⟩) n c)
  (h : ∀ w1, w1.heap[w.heap.size]? = some (.cells C 5 (C.size, C.size + 1)) → Below w.heap.size w w1 → wpList Tryd.prog ops Q rest (a.put o.dst (.slice (some ⟨w.heap.size, 0, none⟩) n c)) w1) : wpList Tryd.prog ops Q (o :: rest) a (w.alloc (.cells C 5)) := by
 have hr := Lib.run_convert_bytes_const (P := Tryd.prog) w 33 5 C n c Tryd.underlying33 Tryd.underlying5
 refine wpList_plain hgd fun K hK => ?_
 unfold Oper.wp execOp
 simp only [ho, Sem.run_bind, Sem.run_pure, Result.andThen_ok, hx, hr]
 exact hK _ _ (h _ (heap_alloc_new w _) (lZ (Below.refl _ _) _))
theorem opE_op {l : Int} {x : S50} {last : Bool} (h : opE l x last = 0) : 1 ≤ x.f0 ∧ x.f0 < 18 := by
 unfold opE at h
 by_cases h0 : 1 ≤ x.f0 ∧ x.f0 < 18
 ·exact h0
 ·rw [if_neg h0] at h; omega
theorem flat_next {α : Type} (g : α → List Int) (l : List α) (k : Nat) (h : k < l.length) : (l.take (k + 1)).flatMap g = (l.take k).flatMap g ++ g l[k] := by
 rw [List.take_succ_eq_append_getElem h, List.flatMap_append]
 simp
def encOut (G : Int) (fs : List S46) : List Int := if firstE G fs = 0 then encB G fs else []
theorem bytes_made (W : World) (ys : List Int) (hl : ys.length ≤ 9223372036854775807) : ReadsRow (fun (x : Int) cs => cs = [Value.int .u8 x]) 1 (W.alloc (.cells (ys.map (Value.int .u8)).toArray 5)) (some ⟨W.heap.size, 0, none⟩) ys.length ys := by
 refine ⟨rfl, hl, fun _ => ⟨_, rfl, fun j p hj => ⟨_, rfl, rfl, fun i u hi => ?_⟩⟩⟩
 rcases i with _ | i
 ·obtain rfl : Value.int .u8 p = u := by simpa using hi
  have h1 := bZ (show (W.alloc (.cells (ys.map (Value.int .u8)).toArray 5)).heap[W.heap.size]? = some (.cells (ys.map (Value.int .u8)).toArray 5 (0, 0)) from blk_at _) j
  have e : (⟨W.heap.size, 0, none⟩ : Addr).add (j * 1 + 0) = ⟨W.heap.size, j, none⟩ := by unfold Addr.add; by_cases h : j = 0 <;> simp [h]
  rw [e, h1, List.getElem?_toArray, List.getElem?_map, hj]
  rfl
 ·simp at hi
theorem bytes_made2 (W : World) (o1 : Obj) (ys : List Int) (hl : ys.length ≤ 9223372036854775807) : ReadsRow (fun (x : Int) cs => cs = [Value.int .u8 x]) 1 ((W.alloc o1).alloc (.cells (ys.map (Value.int .u8)).toArray 5)) (some ⟨W.heap.size + 1, 0, none⟩) ys.length ys := by
 have h := bytes_made (W.alloc o1) ys hl
 rwa [show (W.alloc o1).heap.size = W.heap.size + 1 from Array.size_push _] at h
set_option maxRecDepth 100000 in
set_option maxHeartbeats 16000000 in
theorem enc_any (G : Int) (A : Option Addr) (c : Nat) (fs : List S46) (w : World) (hF : k46.C w A fs.length fs) (hT : Tab w) : Calls Tryd.prog 20 #[.agg #[.int .i64 G, .slice A fs.length c]] w fun e w' => ∃ v, e = .returned (.tuple #[v, .int .i64 (firstE G fs)]) ∧ kB.R 5 w' w.heap.size (fun _ => True) v (encOut G fs) ∧ Below w.heap.size w w' := by
 have HB := Az.mk (Below.refl w.heap.size w)
 have HF := Az.mk hF
 have HT := Az.mk hT
 have hm : fs.length ≤ 9223372036854775807 := Kd.C_max hF
 obtain ⟨n, hn⟩ : ∃ n, n = fs.length := ⟨_, rfl⟩
 have Hn := Az.mk hn
 have HCf := Az.mk (fun w1 (hb : Below w.heap.size w w1) => first_any G A c fs w1 (Kd.C_below hF hb))
 rw [← hn] at hm HCf ⊢
 clear hF hn hT
 obtain ⟨er, her⟩ : ∃ er, er = firstE G fs := ⟨_, rfl⟩
 have He := Az.mk her
 rw [← her]
 clear her
 go_enter Tryd.func20, Tryd.ntmps20
 go_wp2_with ((with_reducible refine gate_dst (N := 1) rfl ?_); refine box_event ?hg (N := 1) ?hd (cs := #[.int .i64 G, .slice A n c]) (t := 24) ?hr ?_; (case hd => rfl); (case hg => rfl); (case hr => first | (go_simp; done) | (go_simp; rfl)); intro g1 hg w1 hbox hb; have G1 : Az (w.heap.size ≤ g1) := ⟨by have := HB.out.size; omega⟩; replace HB := Az.mk (HB.out.trans (hb.mono HB.out.size)); have BK1 := Az.mk hbox; clear hg hbox hb; have hz0 : w1.cell? ⟨g1, 0, none⟩ = some (.int .i64 G) := (bZ BK1.out 0).trans rfl; have hz1 : w1.cell? ⟨g1, 1, none⟩ = some (.slice A n c) := (bZ BK1.out 1).trans rfl)
 refine (HCf.out w1 HB.out).mono ?_
 rintro e w' ⟨rfl, hb⟩
 have HB' := Az.mk (HB.out.trans (hb.mono HB.out.size))
 have BK' := Az.mk (kZ BK1.out hb)
 rw [← He.out]
 clear hb HB BK1 hz0 hz1 HCf
 by_cases h0 : er = 0
 ·subst h0
  have HZ : Az (encOut G fs = encB G fs) := ⟨by unfold encOut; rw [if_pos He.out.symm]⟩
  have HZ0 : Az (firstE G fs = 0) := ⟨He.out.symm⟩
  obtain ⟨w2, rfl⟩ : ∃ w2, w2 = w' := ⟨_, rfl⟩
  have hz0 : w2.cell? ⟨g1, 0, none⟩ = some (.int .i64 G) := (bZ BK'.out 0).trans rfl
  go_wp2_with fail
  refine (ops_any w2).mono ?_
  rintro e wo ⟨B, rfl, hO, hGB, hb⟩
  have HO := Az.mk hO
  have HBo := Az.mk (HB'.out.trans (hb.mono HB'.out.size))
  have BKo := Az.mk (kZ BK'.out hb)
  have HFo := Az.mk (Hn.out ▸ Kd.C_below HF.out HBo.out)
  have HTo := Az.mk (HT.out.below HBo.out)
  clear hO hGB hb HB' BK' hz0 He HF HT
  have HLen1 : Az ((topL G fs).length = 9) := ⟨rfl⟩
  have HLen2 := Az.mk (headsB_len HZ0.out)
  have HLen3 := Az.mk (codes_len HZ0.out)
  have HLen4 := Az.mk (codeB_len HZ0.out)
  have HLen5 := Az.mk (parts_len HZ0.out)
  have HLen6 := Az.mk (part_len HZ0.out)
  have HOk := Az.mk (instr_ok HZ0.out)
  go_wp2_with (first | ((with_reducible refine gate_dst (N := 22) rfl ?_); refine wp_mark_bytes wo _ 6 6 rfl (.tmp 21) rfl rfl ?_; intro w4 hbk hbw; have hz0 := cZ hbw ((bZ BKo.out 0).trans rfl : wo.cell? ⟨g1, 0, none⟩ = some (.int .i64 G)); have hz1 := cZ hbw ((bZ BKo.out 1).trans rfl : wo.cell? ⟨g1, 1, none⟩ = some (.slice A n c))) | ((with_reducible refine gate_builtin (b := .append) (xs := #[.tmp 22, .tmp 35]) rfl ?_); at_builtin; refine wp_grow_marked _ wo.heap.size wo.heap.size w4.heap.size [102, 117, 103, 117, 101, 1] [G % 256, (n : Int) % 256, (n : Int) / 256 % 256] 6 3 rfl rfl (6, 7) (0, 0) rfl (.tmp 22) (.tmp 35) rfl rfl rfl ?b1 ?b2 (by decide) ?bb (by decide) ?_; (case b1 => exact aZ hbk _); (case b2 => exact blk_at _); (case bb => exact (hbw.alloc hbw.size _).size); intro v1 w5 ho hb; have HOv : Az (kB.R 5 w5 wo.heap.size (fun _ => True) v1 (topL G fs)) := ⟨by unfold topL byteI; rw [← Hn.out]; exact ho⟩; have HBv : Az (Below wo.heap.size wo w5) := ⟨(hbw.alloc hbw.size _).trans hb⟩; have hz1' : w5.cell? ⟨g1, 1, none⟩ = some (.slice A n c) := (bZ (kZ BKo.out HBv.out) 1).trans rfl; clear ho hb hbk hbw hz0 hz1; have hz1 := hz1'; clear hz1'))
  clear hz1
  go_loopw [6, 40] (fun v6 v40 w' => ∃ q : Nat, q ≤ n ∧ v40 = .int .i64 (q : Int) ∧ Az (kB.R 5 w' wo.heap.size (fun _ => True) v6 (topL G fs ++ (fs.take q).flatMap headL)) ∧ Az (Below wo.heap.size wo w')) (fun _ i _ => n - (intOf i).toNat)
  case atStart => exact ⟨0, Nat.zero_le _, rfl, ⟨by simpa using HOv.out⟩, HBv⟩
  case round =>
   obtain ⟨q, hq, rfl, HO2, HB2⟩ := hrel
   clear HOv HBv
   obtain ⟨E, hE⟩ : ∃ E, E = topL G fs ++ (fs.take q).flatMap headL := ⟨_, rfl⟩
   have HE := Az.mk hE
   rw [← hE] at HO2
   clear hE
   by_cases hlt : q < n
   ·have hwp : wrap64 ((q : Int) + 1) = (q : Int) + 1 := wrap_in (by omega) (by omega)
    have q0 : (0 : Int) ≤ (q : Int) := by omega
    have q1 : (q : Int) < (n : Int) := by omega
    have hql : q < fs.length := by rw [← Hn.out]; exact hlt
    obtain ⟨ad, A3, c3, hAd, hy0, hy1, hy2, hy3, hC3⟩ := at46 HFo.out q hql Hn.out
    subst hAd
    have hm3 : fs[q].f3.length ≤ 9223372036854775807 := Kd.C_max hC3
    have HM := Az.mk (flat_next headL fs q hql)
    have HLn2 : Az ((E.length + 5) * 1 ≤ 140737488355328) := ⟨by rw [HE.out, List.length_append, HLen1.out]; have := HLen2.out q; omega⟩
    obtain ⟨f, hf⟩ : ∃ f, f = fs[q] := ⟨_, rfl⟩
    rw [← hf] at hy0 hy1 hy2 hy3 HM hm3
    clear hf hC3
    obtain ⟨m3, h3⟩ : ∃ m3, m3 = f.f3.length := ⟨_, rfl⟩
    have HM3 := Az.mk h3
    rw [← h3] at hy3 hm3
    clear h3
    replace hy0 := cZ HB2.out hy0
    replace hy1 := cZ HB2.out hy1
    replace hy2 := cZ HB2.out hy2
    replace hy3 := cZ HB2.out hy3
    go_wp2_with ((with_reducible refine gate_builtin (b := .append) (xs := #[.tmp 44, .tmp 63]) rfl ?_); at_builtin; refine Kd.R_append_rows (Kd.int .u8) (Rr := fun (x : Int) cs => cs = [Value.int .u8 x]) (w0 := wo) wo.heap.size rfl (.tmp 44) (.tmp 63) 33 5 (.int .u8 0) 1 rfl Tryd.underlying33 info5 rfl (by decide) (by omega) (u6) (E) [f.f0 % 256, f.f1 % 256, f.f2 % 256, (m3 : Int) % 256, (m3 : Int) / 256 % 256] _ 5 _ (fun _ => True) (fun _ => False) rfl rfl ?aO ?aR (fun _ _ h => h) (fun _ hk => hk.elim) (fun _ _ => trivial) ?aB ?aS ?aL ?_; (case aO => exact Kd.R_below HO2.out (lZ (lZ (Below.refl _ _) _) _)); (case aR => exact bytes_made2 wr (.cells #[.int .i64 f.f0, .int .i64 f.f1, .int .i64 f.f2, .slice A3 m3 c3] 46) [f.f0 % 256, f.f1 % 256, f.f2 % 256, (m3 : Int) % 256, (m3 : Int) / 256 % 256] (by simp)); (case aB => exact lZ (lZ (HB2.out) _) _); (case aS => exact (lZ (lZ (HB2.out) _) _).size); (case aL => exact HLn2.out); intro v1 wv ho hb hg hat; have HBv := Az.mk hb; have HOv := Az.mk ho; clear ho hb hg hat)
    have HO3 : Az (kB.R 5 wv wo.heap.size (fun _ => True) v1 (topL G fs ++ (fs.take (q + 1)).flatMap headL)) := ⟨by rw [HM.out, ← List.append_assoc, ← HE.out]; have := HOv.out; unfold headL byteI; rw [← HM3.out]; exact this⟩
    clear HOv hy0 hy1 hy2 hy3
    go_roundw
    case rel => exact ⟨q + 1, by omega, by go_num, HO3, HBv⟩
    case measure => simp [intOf]; omega
   ·obtain rfl : n = q := by omega
    have HE0 : Az (E = topL G fs ++ fs.flatMap headL) := ⟨by rw [HE.out, Hn.out, List.take_of_length_le (Nat.le_refl _)]⟩
    have HL0 : Az (E.length ≤ 400000) := ⟨by rw [HE.out, List.length_append, HLen1.out]; have := HLen2.out n; omega⟩
    clear HE hlt hq
    obtain ⟨E0, rfl⟩ : ∃ E0, E0 = E := ⟨_, rfl⟩
    obtain ⟨w6, rfl⟩ : ∃ w6, w6 = wr := ⟨_, rfl⟩
    have HO0 := HO2
    have HB0 := HB2
    clear HO2 HB2
    have hz1 : w6.cell? ⟨g1, 1, none⟩ = some (.slice A n c) := (bZ (kZ BKo.out HB0.out) 1).trans rfl
    go_wp2_with fail
    clear hz1
    go_loopw [6, 69] (fun v6 v69 w' => ∃ q : Nat, q ≤ n ∧ v69 = .int .i64 (q : Int) ∧ Az (kB.R 5 w' wo.heap.size (fun _ => True) v6 (E0 ++ (fs.take q).flatMap (fun f => f.f3.flatMap instrB))) ∧ Az (Below wo.heap.size wo w')) (fun _ i _ => n - (intOf i).toNat)
    case atStart => exact ⟨0, Nat.zero_le _, rfl, ⟨by simpa using HO0.out⟩, HB0⟩
    case round =>
     obtain ⟨q, hq, rfl, HO2, HB2⟩ := hrel
     clear HO0 HB0
     obtain ⟨E, hE⟩ : ∃ E, E = E0 ++ (fs.take q).flatMap (fun f => f.f3.flatMap instrB) := ⟨_, rfl⟩
     have HE := Az.mk hE
     rw [← hE] at HO2
     clear hE
     by_cases hlt : q < n
     ·have hwp : wrap64 ((q : Int) + 1) = (q : Int) + 1 := wrap_in (by omega) (by omega)
      have q0 : (0 : Int) ≤ (q : Int) := by omega
      have q1 : (q : Int) < (n : Int) := by omega
      have hql : q < fs.length := by rw [← Hn.out]; exact hlt
      obtain ⟨ad, A3, c3, hAd, hy0, hy1, hy2, hy3, hC3⟩ := at46 HFo.out q hql Hn.out
      subst hAd
      have hmm : fs[q].f3.length ≤ 9223372036854775807 := Kd.C_max hC3
      have HM := Az.mk (flat_next (fun f : S46 => f.f3.flatMap instrB) fs q hql)
      have HL1 : Az (E.length ≤ 7600000000) := ⟨by rw [HE.out, List.length_append]; have := HLen3.out q; have := HL0.out; omega⟩
      have HLc := Az.mk (HLen4.out q hql)
      have HLp := Az.mk (HLen5.out q hql)
      have HL9 := Az.mk (HLen6.out q hql)
      have HOkq := Az.mk (HOk.out q hql)
      obtain ⟨f, hf⟩ : ∃ f, f = fs[q] := ⟨_, rfl⟩
      rw [← hf] at hy0 hy1 hy2 hy3 HM hmm hC3 HLc HLp HL9 HOkq
      clear hf
      obtain ⟨m, hm0⟩ : ∃ m, m = f.f3.length := ⟨_, rfl⟩
      have Hm := Az.mk hm0
      have HC3 := Az.mk hC3
      rw [← hm0] at hy3 hmm
      clear hm0 hC3
      replace hy0 := cZ HB2.out hy0
      replace hy1 := cZ HB2.out hy1
      replace hy2 := cZ HB2.out hy2
      replace hy3 := cZ HB2.out hy3
      go_wp2_with fail
      obtain ⟨w8, hw8⟩ : ∃ w8, w8 = wr.alloc (.cells #[.int .i64 f.f0, .int .i64 f.f1, .int .i64 f.f2, .slice A3 m c3] 46) := ⟨_, rfl⟩
      obtain ⟨g8, hg8⟩ : ∃ g8, g8 = wr.heap.size := ⟨_, rfl⟩
      rw [← hw8, ← hg8]
      have BK8 := Az.mk (show w8.heap[g8]? = some (.cells #[.int .i64 f.f0, .int .i64 f.f1, .int .i64 f.f2, .slice A3 m c3] 46 (0, 0)) by rw [hw8, hg8]; exact blk_at _)
      have HO8 : Az (kB.R 5 w8 wo.heap.size (fun _ => True) u6 E) := ⟨by rw [hw8]; exact Kd.R_below HO2.out (lZ (Below.refl _ _) _)⟩
      have HB8 : Az (Below wo.heap.size wo w8) := ⟨by rw [hw8]; exact HB2.out.alloc HB2.out.size _⟩
      clear hw8 hg8 HO2 HB2 hy0 hy1 hy2 hy3
      have HW1 := Az.mk hwp
      clear hwp
      go_loopw [6, 76] (fun v6 v76 w' => ∃ k : Nat, k ≤ m ∧ v76 = .int .i64 (k : Int) ∧ Az (kB.R 5 w' wo.heap.size (fun _ => True) v6 (E ++ (f.f3.take k).flatMap instrB)) ∧ Az (Below wo.heap.size wo w') ∧ Az (w'.heap[g8]? = some (.cells #[.int .i64 f.f0, .int .i64 f.f1, .int .i64 f.f2, .slice A3 m c3] 46 (0, 0)))) (fun _ i _ => m - (intOf i).toNat)
      case atStart => exact ⟨0, Nat.zero_le _, rfl, ⟨by simpa using HO8.out⟩, HB8, BK8⟩
      case round =>
       obtain ⟨k, hk, rfl, HO3, HB3, BK3⟩ := hrel
       clear HO8 HB8 BK8
       obtain ⟨E2, hE2⟩ : ∃ E2, E2 = E ++ (f.f3.take k).flatMap instrB := ⟨_, rfl⟩
       have HE2 := Az.mk hE2
       rw [← hE2] at HO3
       clear hE2
       by_cases hlt2 : k < m
       ·have hwp2 : wrap64 ((k : Int) + 1) = (k : Int) + 1 := wrap_in (by omega) (by omega)
        have k0 : (0 : Int) ≤ (k : Int) := by omega
        have k1 : (k : Int) < (m : Int) := by omega
        have hkl : k < f.f3.length := by rw [← Hm.out]; exact hlt2
        obtain ⟨ad2, A5, c5, A6, c6, hAd2, hx, h5, h6⟩ := at50 HC3.out k hkl rfl
        subst hAd2
        obtain ⟨l1, ho1, -⟩ := HOkq.out k hkl
        obtain ⟨o1, o2⟩ := opE_op ho1
        clear ho1
        have HM2 := Az.mk (flat_next instrB f.f3 k hkl)
        have HL2 : Az (E2.length ≤ 7700000000) := ⟨by rw [HE2.out, List.length_append]; have := HLc.out k; have := HL1.out; omega⟩
        have HLpx := Az.mk (HLp.out k hkl)
        have HL9x := Az.mk (HL9.out k hkl)
        obtain ⟨x, hxx⟩ : ∃ x, x = f.f3[k] := ⟨_, rfl⟩
        rw [← hxx] at hx h5 h6 o1 o2 HM2 HLpx HL9x
        clear hxx
        have HX := Az.mk (And.intro hx (And.intro h5 h6))
        clear hx h5 h6
        obtain ⟨op, hop⟩ : ∃ op : Nat, x.f0 = (op : Int) := ⟨x.f0.toNat, by omega⟩
        have HOp := Az.mk hop
        have HX0 : Az (wo.cell? (ad2.add (k * 7)) = some (.int .i64 (op : Int))) := ⟨by rw [← hop]; exact HX.out.1.1⟩
        have HPt : Az (partsOf x.f0.toNat = partsOf op) := ⟨by rw [hop, Int.toNat_natCast]⟩
        have hop1 : op < 18 := by omega
        obtain ⟨b, hrow, hR⟩ := HO.out op (by omega) (by omega)
        rw [hop] at o1 o2
        clear hop
        have HR := Az.mk hR
        have hnp := parts_le op
        obtain ⟨np, hnp0⟩ : ∃ np, np = (partsOf op).length := ⟨_, rfl⟩
        have Hnp := Az.mk hnp0
        rw [← hnp0] at hrow hnp
        have HRow := Az.mk hrow
        clear hR hnp0 hrow
        have hx0 := cZ HB3.out HX0.out
        have hy3 : wr.cell? ⟨g8, 3, none⟩ = some (.slice (some ad2) m c3) := (bZ BK3.out 3).trans rfl
        have HLn2 : Az ((E2.length + 1) * 1 ≤ 140737488355328) := ⟨by have := HL2.out; omega⟩
        go_wp2_with ((with_reducible refine gate_builtin (b := .append) (xs := #[.tmp 83, .tmp 89]) rfl ?_); at_builtin; refine Kd.R_append_rows (Kd.int .u8) (Rr := fun (x : Int) cs => cs = [Value.int .u8 x]) (w0 := wo) wo.heap.size rfl (.tmp 83) (.tmp 89) 33 5 (.int .u8 0) 1 rfl Tryd.underlying33 info5 rfl (by decide) (by omega) (u6) (E2) [(op : Int)] _ 1 _ (fun _ => True) (fun _ => False) rfl rfl ?aO ?aR (fun _ _ h => h) (fun _ hk => hk.elim) (fun _ _ => trivial) ?aB ?aS ?aL ?_; (case aO => exact Kd.R_below HO3.out (lZ (Below.refl _ _) _)); (case aR => exact bytes_made wr [(op : Int)] (by simp)); (case aB => exact lZ (HB3.out) _); (case aS => exact (lZ (HB3.out) _).size); (case aL => exact HLn2.out); intro v1 wv ho hb hg hat; have HBv := Az.mk hb; have HOv := Az.mk ho; have BKv := Az.mk (Keep5.grown (Kd.R_below HO3.out (lZ (Below.refl _ _) _)) hg _ _ _ _ (by decide) (aZ BK3.out _)); have hx0' := cZ HBv.out HX0.out; have hrow := cZ HBv.out HRow.out; clear hx0 hy3; have hx0 := hx0'; clear hx0'; clear ho hb hg hat)
        have HO5 : Az (kB.R 5 wv wo.heap.size (fun _ => True) v1 (E2 ++ [byteI x.f0])) := ⟨by have := HOv.out; rw [show byteI x.f0 = (op : Int) from by rw [HOp.out]; exact Int.emod_eq_of_lt (by omega) (by omega)]; exact this⟩
        clear HOv hx0 hrow HO3 HB3 BK3
        have HW2 := Az.mk hwp2
        clear hwp2
        obtain ⟨E3, hE3⟩ : ∃ E3, E3 = E2 ++ [byteI x.f0] := ⟨_, rfl⟩
        have HE3 := Az.mk hE3
        rw [← hE3] at HO5
        clear hE3
        go_loopw [6, 99] (fun v6 v99 w' => ∃ j : Nat, j ≤ np ∧ v99 = .int .i64 (j : Int) ∧ Az (kB.R 5 w' wo.heap.size (fun _ => True) v6 (E3 ++ ((partsOf op).take j).flatMap (putB x))) ∧ Az (Below wo.heap.size wo w') ∧ Az (w'.heap[g8]? = some (.cells #[.int .i64 f.f0, .int .i64 f.f1, .int .i64 f.f2, .slice (some ad2) m c3] 46 (0, 0)))) (fun _ i _ => np - (intOf i).toNat)
        case atStart => exact ⟨0, Nat.zero_le _, rfl, ⟨by simpa using HO5.out⟩, HBv, BKv⟩
        case round =>
         obtain ⟨j, hj, rfl, HO4, HB4, BK4⟩ := hrel
         clear HO5 HBv BKv
         obtain ⟨E4, hE4⟩ : ∃ E4, E4 = E3 ++ ((partsOf op).take j).flatMap (putB x) := ⟨_, rfl⟩
         have HE4 := Az.mk hE4
         rw [← hE4] at HO4
         clear hE4
         by_cases hlt3 : j < np
         ·have j0 : (0 : Int) ≤ (j : Int) := Int.natCast_nonneg j
          have j1 : (j : Int) < (np : Int) := Int.ofNat_lt.mpr hlt3
          have hwp3 : wrap64 ((j : Int) + 1) = (j : Int) + 1 := wrap_in (by omega) (by omega)
          have hjl : j < (partsOf op).length := by rw [← Hnp.out]; exact hlt3
          obtain ⟨pk, hpk⟩ : ∃ pk, (partsOf op)[j]? = some pk := ⟨_, List.getElem?_eq_getElem hjl⟩
          obtain ⟨c0, c1, c2, c3', hp, z0, z1, z2, z3⟩ := HR.out j pk hpk
          have HM4 : Az (((partsOf op).take (j + 1)).flatMap (putB x) = ((partsOf op).take j).flatMap (putB x) ++ putB x pk) := ⟨by rw [flat_next (putB x) (partsOf op) j hjl, (List.getElem?_eq_some_iff.1 hpk).2]⟩
          have HL4 : Az (E4.length + (putB x pk).length ≤ 100000000000000) := ⟨by have h1 := HL9x.out j pk (by rw [HPt.out]; exact hpk); have h2 := HLpx.out j; rw [HPt.out] at h2; rw [HE4.out, HE3.out, List.length_append, List.length_append, List.length_singleton]; have := HL2.out; omega⟩
          have hc0 := mask_is hp
          subst hc0
          obtain ⟨k1', a1, k2, a2, k3, a3, rfl, rfl, rfl⟩ := fns_is hp
          obtain ⟨fn, cap, hc2, hen, hcall⟩ := put_part pk _ _ _ _ (ad2.add (k * 7)) x A5 c5 A6 c6 op j wo hp HTo.out HX.out.1 HX.out.2.1 HX.out.2.2 HOp.out hpk
          injection hc2 with hc2 _ hc3
          injection hc2 with hc2
          subst hc2 hc3
          unfold Enters at hen
          clear hpk hp
          replace z0 := cZ HB4.out z0
          replace z1 := cZ HB4.out z1
          replace z2 := cZ HB4.out z2
          replace z3 := cZ HB4.out z3
          obtain ⟨w10, hw10⟩ : ∃ w10, w10 = wr.alloc (.cells #[.int .i64 (maskOf pk), .func (Fn.func k1') #[] a1, .func (Fn.func k2) #[] a2, .func (Fn.func k3) #[] a3] 69) := ⟨_, rfl⟩
          have HW10 := Az.mk hw10
          have HCl := Az.mk (hcall u6 E4 w10 (by rw [hw10]; exact HB4.out.alloc HB4.out.size _) (by rw [hw10]; exact Kd.R_below HO4.out (lZ (Below.refl _ _) _)) HL4.out)
          clear hcall hw10
          go_wp2_with fail
          rw [← HW10.out]
          have BK5 : Az (w10.heap[g8]? = some (.cells #[.int .i64 f.f0, .int .i64 f.f1, .int .i64 f.f2, .slice (some ad2) m c3] 46 (0, 0))) := ⟨by rw [HW10.out]; exact aZ BK4.out _⟩
          refine HCl.out.mono ?_
          rintro e w' ⟨v', rfl, hO, hB, hK⟩
          have HOn : Az (kB.R 5 w' wo.heap.size (fun _ => True) v' (E3 ++ ((partsOf op).take (j + 1)).flatMap (putB x))) := ⟨by rw [HM4.out, ← List.append_assoc, ← HE4.out]; exact hO⟩
          have HBn := Az.mk hB
          have BKn := Az.mk (hK _ _ _ _ (by decide) BK5.out)
          clear hO hB hK z0 z1 z2 z3 hen HCl
          clear q0 q1 k0 k1 hq hk hlt hlt2 hql hkl hjl o1 o2 hop1 hm hmm
          go_wp2_with fail
          go_roundw
          case rel => exact ⟨j + 1, by omega, by go_num, HOn, HBn, BKn⟩
          case measure => simp [intOf]; omega
         ·obtain rfl : np = j := by omega
          have HO6 : Az (kB.R 5 wr wo.heap.size (fun _ => True) u6 (E ++ (f.f3.take (k + 1)).flatMap instrB)) := ⟨by rw [HM2.out, ← List.append_assoc, ← HE2.out]; unfold instrB; rw [HPt.out]; have := HO4.out; rw [HE4.out, HE3.out, Hnp.out, List.take_of_length_le (Nat.le_refl _), List.append_assoc] at this; exact this⟩
          have hwp2 := HW2.out
          clear hlt3 hj HO4
          go_wp2_with fail
          go_roundw
          case rel => exact ⟨k + 1, by omega, by go_num, HO6, HB4, BK4⟩
          case measure => simp [intOf]; omega
       ·obtain rfl : m = k := by omega
        have HO7 : Az (kB.R 5 wr wo.heap.size (fun _ => True) u6 (E0 ++ (fs.take (q + 1)).flatMap (fun f => f.f3.flatMap instrB))) := ⟨by rw [HM.out, ← List.append_assoc, ← HE.out]; have := HO3.out; rw [HE2.out, Hm.out, List.take_of_length_le (Nat.le_refl _)] at this; exact this⟩
        have hwp := HW1.out
        clear hlt2 hk HO3
        go_wp2_with fail
        go_roundw
        case rel => exact ⟨q + 1, by omega, by go_num, HO7, HB3⟩
        case measure => simp [intOf]; omega
     ·obtain rfl : n = q := by omega
      have HO8 : Az (kB.R 5 wr w.heap.size (fun _ => True) u6 (encB G fs)) := ⟨by have := HO2.out; rw [HE.out, HE0.out, Hn.out, List.take_of_length_le (Nat.le_refl _)] at this; exact Kd.R_lower this HBo.out.size⟩
      have HB8 : Az (Below w.heap.size w wr) := ⟨HBo.out.trans (HB2.out.mono HBo.out.size)⟩
      clear hlt hq HO2
      go_wp2_with fail
      go_ret2
      exact ⟨u6, rfl, by rw [HZ.out]; exact HO8.out, HB8.out⟩
 ·have HZ : Az (encOut G fs = []) := ⟨by unfold encOut; rw [if_neg (by rw [← He.out]; exact h0)]⟩
  have h0b : (er != 0) = true := by simpa using h0
  go_wp2_with fail
  go_ret2
  exact ⟨.slice none 0 0, rfl, by rw [HZ.out]; exact Kd.R_nil _ _ _ _ _, HB'.out⟩
def TAB_43.T2 : Bool × List (List Nat × List Nat) := (true, [([], []), ([0], [0]), ([1], [1]), ([], []), ([3], [3]), ([4], [4]), ([5], [5]), ([6], [6]), ([], []), ([8], [8]), ([9], [9]), ([10], [10]), ([7, 11], [7, 11]), ([], []), ([12, 13], [12, 13]), ([2, 14], [2, 14])])
def TAB_43.B2 : List Nat := [0, 1, 3, 0, 8, 24, 56, 120, 0, 256, 768, 1792, 4088, 0, 16376, 32767]
theorem TAB_43.tab2 : rtab .any (opsOf Tryd.f43 2) = TAB_43.T2 := by kernel_rfl
theorem TAB_43.bits2 : waitsOk TAB_43.T2.2 TAB_43.B2 = true := by kernel_rfl
def TAB_43.T9 : Bool × List (List Nat × List Nat) := (true, [([], []), ([0], [0]), ([], []), ([2], [2]), ([3], [3]), ([4], [4]), ([], []), ([6], [6]), ([7], [7]), ([8], [8]), ([9], [9]), ([], []), ([10, 11], [10, 11]), ([5, 12], [5, 12]), ([13], [13]), ([14], [14]), ([1, 15], [1, 15]), ([16, 0, 1, 2, 3, 4, 5, 6, 7, 8, 9, 10, 11, 12, 13, 14, 15, 16], [0, 16])])
def TAB_43.B9 : List Nat := [0, 1, 0, 4, 12, 28, 0, 64, 192, 448, 960, 0, 4032, 8188, 16380, 32764, 65535, 131071]
theorem TAB_43.tab9 : rtab .any (opsOf Tryd.f43 9) = TAB_43.T9 := by kernel_rfl
theorem TAB_43.bits9 : waitsOk TAB_43.T9.2 TAB_43.B9 = true := by kernel_rfl
theorem AskW.set4 {w : World} {g B : Nat} {ty : TypeId} {rest : List Value} {G : Int} {A : Option Addr} {n c : Nat} {locs at_ : Int} (h : AskW w g ty rest G A n c B locs at_) (z : Int) : AskW (w.setCell ⟨g, 4, none⟩ (.int .i64 z)) g ty rest G A n c B locs z := (blk_set h 4 _).trans (by simp)
theorem AskW.set6 {w : World} {g B : Nat} {ty : TypeId} {v u : Value} {G : Int} {A : Option Addr} {n c : Nat} {locs at_ : Int} (h : AskW w g ty [v, u] G A n c B locs at_) (z : Value) : AskW (w.setCell ⟨g, 6, none⟩ z) g ty [v, z] G A n c B locs at_ := (blk_set h 6 _).trans (by simp)
theorem AskW.set1 {w : World} {g B : Nat} {ty : TypeId} {rest : List Value} {G : Int} {A A' : Option Addr} {n n' c c' : Nat} {locs at_ : Int} (h : AskW w g ty rest G A n c B locs at_) : AskW (w.setCell ⟨g, 1, none⟩ (.slice A' n' c')) g ty rest G A' n' c' B locs at_ := (blk_set h 1 _).trans (by simp)
theorem AskW.set0 {w : World} {g B : Nat} {ty : TypeId} {rest : List Value} {G G' : Int} {A : Option Addr} {n c : Nat} {locs at_ : Int} (h : AskW w g ty rest G A n c B locs at_) : AskW (w.setCell ⟨g, 0, none⟩ (.int .i64 G')) g ty rest G' A n c B locs at_ := (blk_set h 0 _).trans (by simp)
abbrev rdR (Ab : Option Addr) (nb cb : Nat) (nx : Int) : List Value := [.slice Ab nb cb, .int .i64 nx]
def upN (bs : List Int) (p k : Nat) : Nat → Int
 | 0 => 0
 | m + 1 => upN bs p k m * 256 + bs.getD (p + (k - 1 - m)) 0
theorem wrap_u64 (n : Nat) (h : n < 18446744073709551616) : IntKind.u64.wrap (n : Int) = (n : Int) := by
 unfold IntKind.wrap
 show (if (false && _) = true then _ else (n : Int) % 2 ^ 64) = _
 simp only [Bool.false_and]
 show (n : Int) % 18446744073709551616 = _
 omega
theorem or_bytes (U x : Int) (h : 0 ≤ U ∧ U < 72057594037927936) (hx : 0 ≤ x ∧ x ≤ 255) : bits .or .u64 (IntKind.u64.wrap (U * 256)) (IntKind.u64.wrap x) = U * 256 + x := by
 obtain ⟨u, rfl⟩ := Int.eq_ofNat_of_zero_le h.1
 obtain ⟨y, rfl⟩ := Int.eq_ofNat_of_zero_le hx.1
 have e1 : (u : Int) * 256 = ((u * 256 : Nat) : Int) := by omega
 have hu : u < 72057594037927936 := by omega
 have hy : y < 256 := by omega
 rw [e1, wrap_u64 (u * 256) (by omega), wrap_u64 y (by omega)]
 show IntKind.u64.wrap ((BitVec.ofInt 64 ((u * 256 : Nat) : Int) ||| BitVec.ofInt 64 (y : Int)).toNat : Int) = _
 rw [BitVec.ofInt_natCast, BitVec.ofInt_natCast, BitVec.toNat_or, BitVec.toNat_ofNat, BitVec.toNat_ofNat, Nat.mod_eq_of_lt (by omega), Nat.mod_eq_of_lt (by omega), show u * 256 = u <<< 8 from by rw [Nat.shiftLeft_eq], ← Nat.shiftLeft_add_eq_or_of_lt (by omega), Nat.shiftLeft_eq, wrap_u64 _ (by omega)]
 omega
theorem wrap_i64 (n : Nat) (h : n < 9223372036854775808) : IntKind.i64.wrap (n : Int) = (n : Int) := by
 rw [i64_w]
 exact wrap_in (by omega) (by omega)
theorem or_bytes64 (y x : Int) (hy : 0 ≤ y ∧ y ≤ 255) (hx : 0 ≤ x ∧ x ≤ 255) : bits .or .i64 x (y * 256) = x + y * 256 := by
 obtain ⟨u, rfl⟩ := Int.eq_ofNat_of_zero_le hy.1
 obtain ⟨v, rfl⟩ := Int.eq_ofNat_of_zero_le hx.1
 have e1 : (u : Int) * 256 = ((u * 256 : Nat) : Int) := by omega
 have hu : u < 256 := by omega
 have hv : v < 256 := by omega
 rw [e1]
 show IntKind.i64.wrap ((BitVec.ofInt 64 (v : Int) ||| BitVec.ofInt 64 ((u * 256 : Nat) : Int)).toNat : Int) = _
 rw [BitVec.ofInt_natCast, BitVec.ofInt_natCast, BitVec.toNat_or, BitVec.toNat_ofNat, BitVec.toNat_ofNat, Nat.mod_eq_of_lt (by omega), Nat.mod_eq_of_lt (by omega), Nat.or_comm, show u * 256 = u <<< 8 from by rw [Nat.shiftLeft_eq], ← Nat.shiftLeft_add_eq_or_of_lt (by omega), Nat.shiftLeft_eq, wrap_i64 _ (by omega)]
 omega
theorem upN_range (bs : List Int) (p k : Nat) (hb : ∀ x ∈ bs, 0 ≤ x ∧ x ≤ 255) : ∀ m, 0 ≤ upN bs p k m ∧ upN bs p k m < 256 ^ m
 | 0 => ⟨Int.le_refl _, show (0 : Int) < 1 by decide⟩
 | m + 1 => by
  obtain ⟨h0, h1⟩ := upN_range bs p k hb m
  have hx : 0 ≤ bs.getD (p + (k - 1 - m)) 0 ∧ bs.getD (p + (k - 1 - m)) 0 ≤ 255 := by
   rw [List.getD_eq_getElem?_getD]
   rcases Nat.lt_or_ge (p + (k - 1 - m)) bs.length with g | g
   ·rw [List.getElem?_eq_getElem g]; exact hb _ (List.getElem_mem g)
   ·rw [List.getElem?_eq_none g]; decide
  have e : (256 : Int) ^ (m + 1) = 256 ^ m * 256 := Int.pow_succ 256 m
  constructor
  ·show 0 ≤ _ * 256 + _; omega
  ·show _ * 256 + _ < _; rw [e]; omega
theorem upN_small (bs : List Int) (p k : Nat) (hb : ∀ x ∈ bs, 0 ≤ x ∧ x ≤ 255) (m : Nat) (hm : m < 8) : 0 ≤ upN bs p k m ∧ upN bs p k m < 72057594037927936 := by
 obtain ⟨h0, h1⟩ := upN_range bs p k hb m
 refine ⟨h0, Int.lt_of_lt_of_le h1 ?_⟩
 have : (256 : Int) ^ m ≤ 256 ^ 7 := by
  have := Nat.pow_le_pow_right (n := 256) (by omega) (show m ≤ 7 by omega)
  have := Int.ofNat_le.mpr this
  rw [Int.natCast_pow, Int.natCast_pow] at this
  exact this
 exact this
def NumPost (Wz w : World) (g : Nat) (Ab : Option Addr) (cb : Nat) (bs : List Int) (nx k : Nat) (G : Int) (A : Option Addr) (n c B : Nat) (locs : Int) (e : Ending) (w' : World) : Prop :=
 e = (if nx + k ≤ bs.length then .returned (.int .i64 (wrap64 (upN bs nx k k))) else .panicked [{ v := stopV 11 bs.length, recovered := false }]) ∧ (nx + k ≤ bs.length → AskW w' g 80 (rdR Ab bs.length cb ((nx + k : Nat) : Int)) G A n c B locs nx) ∧ Below Wz.heap.size Wz w' ∧ KeepBut w w' g none
set_option maxRecDepth 100000 in
set_option maxHeartbeats 8000000 in
theorem number_rd (g : Nat) (k : Nat) (hk : 1 ≤ k ∧ k ≤ 8) (G : Int) (A : Option Addr) (n c B : Nat) (locs at_ : Int) (Ab : Option Addr) (cb : Nat) (bs : List Int) (nx : Nat) (Wz w : World) (hz : Below Wz.heap.size Wz w) (hg : Wz.heap.size ≤ g) (hA : AskW w g 80 (rdR Ab bs.length cb nx) G A n c B locs at_) (hB : kB.C Wz Ab bs.length bs) (hnx : nx ≤ bs.length) (hby : ∀ x ∈ bs, 0 ≤ x ∧ x ≤ 255) :
  Calls Tryd.prog 43 #[.pointer (some ⟨g, 0, none⟩), .int .i64 k] w fun e w' => NumPost Wz w g Ab cb bs nx k G A n c B locs e w' := by
 have HA := Az.mk hA
 have HZ := Az.mk hz
 have HG := Az.mk hg
 have HBs := Az.mk hB
 have HBy := Az.mk hby
 have hm : bs.length ≤ 9223372036854775807 := Kd.C_max hB
 obtain ⟨nb, hn⟩ : ∃ nb, nb = bs.length := ⟨_, rfl⟩
 have Hn := Az.mk hn
 have h5 : w.cell? ⟨g, 5, none⟩ = some (.slice Ab nb cb) := by rw [hn]; exact (bZ hA 5).trans rfl
 have h6 : w.cell? ⟨g, 6, none⟩ = some (.int .i64 nx) := (bZ hA 6).trans rfl
 have h4 : w.cell? ⟨g, 4, none⟩ = some (.int .i64 at_) := (bZ hA 4).trans rfl
 have hf4 := fZ hA 4
 rw [← hn] at hm hnx
 clear hA hz hg hB hn hby
 go_enter Tryd.func43, Tryd.ntmps43
 go_wp2_with fail
 have HA1 := Az.mk (HA.out.set4 nb)
 have HZ1 : Az (Below Wz.heap.size Wz (w.setCell ⟨g, 4, none⟩ (.int .i64 nb))) := ⟨sZ HZ.out HG.out⟩
 have HK1 : Az (KeepBut w (w.setCell ⟨g, 4, none⟩ (.int .i64 nb)) g none) := ⟨(KeepBut.refl w g none).set_ 4 _⟩
 obtain ⟨w1, hw1⟩ : ∃ w1, w1 = w.setCell ⟨g, 4, none⟩ (.int .i64 nb) := ⟨_, rfl⟩
 rw [← hw1] at HA1 HZ1 HK1 ⊢
 clear hw1 h4 h5 h6 hf4
 have h5 : w1.cell? ⟨g, 5, none⟩ = some (.slice Ab nb cb) := by rw [Hn.out]; exact (bZ HA1.out 5).trans rfl
 have h6 : w1.cell? ⟨g, 6, none⟩ = some (.int .i64 nx) := (bZ HA1.out 6).trans rfl
 have H4 : Az (w1.drew.cell? ⟨g, 4, none⟩ = some (.int .i64 nb)) := ⟨(bZ HA1.out 4).trans rfl⟩
 have hws : wrap64 ((nb : Int) - (nx : Int)) = (nb : Int) - (nx : Int) := wrap_in (by omega) (by omega)
 by_cases h0 : nx + k ≤ nb
 ·have hc : decide ((k : Int) ≤ (nb : Int) - (nx : Int)) = true := decide_eq_true (by omega)
  refine start_ (n := 16) (S := fun w' => w'.cell? ⟨g, 5, none⟩ = some (.slice Ab nb cb) ∧ w'.cell? ⟨g, 6, none⟩ = some (.int .i64 nx)) (ds := []) #[false, false, false, false, false, false, false, false, false, false, false, false, false, false, false, false] (by kernel_rfl) rfl rfl ⟨h5, h6⟩ (fun hHeld => ?_)
  refine with_tabW TAB_43.tab2 TAB_43.bits2 (fun HT_ HW_ => ?_)
  refine pq 0 (some 16) HT_ rfl rfl (fun _ _ _ h => h) ?_
  refine pq 1 (some 17) HT_ rfl rfl (fun _ _ _ h => h) ?_
  refine pq 2 (some 18) HT_ rfl rfl (fun _ _ _ h => h) ?_
  refine pq 3 (some 19) HT_ rfl rfl (fun _ _ _ h => h) ?_
  refine pq 4 (some 20) HT_ rfl rfl (fun _ _ _ h => h) ?_
  refine pq 5 (some 21) HT_ rfl rfl (fun _ _ _ h => h) ?_
  refine pq 8 (some 24) HT_ rfl rfl (fun _ _ _ h => h) ?_
  refine pq 9 (some 25) HT_ rfl rfl (fun _ _ _ h => h) ?_
  refine pq 10 (some 26) HT_ rfl rfl (fun _ _ _ h => h) ?_
  refine pq 13 (some 29) HT_ rfl rfl (fun _ _ _ h => h) ?_
  refine pt 6 (some 22) (v := ?_) (a' := ?_) rfl rfl (take_ofW HT_.out HW_.out (by kernel_rfl)) (fun _ _ _ h => h) (Or.inl ⟨by rfl, ?_⟩) hHeld ?_ ?_
  rotate_left; (rintro w' ⟨s0, s1⟩; go_simp; with_reducible rfl); rotate_left; (simp only [Act.put, pn, i64_w, i32_w]; rfl)
  refine pq 7 (some 23) HT_ rfl rfl (fun _ _ _ h => h) ?_
  refine pt 11 (some 27) (v := ?_) (a' := ?_) rfl rfl (take_ofW HT_.out HW_.out (by kernel_rfl)) (fun _ _ _ h => h) (Or.inl ⟨by rfl, ?_⟩) hHeld ?_ ?_
  rotate_left; (rintro w' ⟨s0, s1⟩; go_simp; with_reducible rfl); rotate_left; (simp only [Act.put, pn, i64_w, i32_w]; rfl)
  refine pq 12 (some 28) HT_ rfl rfl (fun _ _ _ h => h) ?_
  refine pq 14 (some 30) HT_ rfl rfl (fun _ _ _ h => h) ?_
  refine one_ (i := 15) (N := some 31) #[true, true, true, true, true, true, true, true, true, true, true, true, true, true, true, true] rfl rfl (one_of HT_.out (by kernel_rfl)) (by decide) (fun K hK => ?_)
  refine goes_ Tryd.func42 (by kernel_rfl) rfl #[.pointer (some ⟨g, 0, none⟩), .bool true, .int .i64 11] (by rfl) rfl rfl (by simp only [List.map_toArray, List.map_cons, List.map_nil]; rfl) ?_
  with_reducible refine (must_true _ _ _).mono ?_
  rintro e_ wm ⟨rfl, rfl⟩
  refine ⟨_, rfl, ?_⟩
  refine hK.out _ _ ⟨h5, h6⟩ (fun hHeld => ?_)
  clear hK K
  refine norm_ (a' := ?_) ?_ ?_
  rotate_left
  ·show Act.put _ (some 31) _ = _
   simp only [Act.put, pn, i64_w, i32_w]
   rfl
  refine done_ (done_of HT_.out (by kernel_rfl)) ?_
  clear hHeld HT_ HW_ h5 h6 hc
  have HA2 : Az (AskW w1.drew g 80 (rdR Ab bs.length cb nx) G A n c B locs nb) := ⟨HA1.out⟩
  have HZ2 : Az (Below Wz.heap.size Wz w1.drew) := ⟨below_drew HZ1.out⟩
  have HK2 : Az (KeepBut w w1.drew g none) := ⟨HK1.out⟩
  clear HA1 HZ1 HK1 H4
  obtain ⟨w2, hw2⟩ : ∃ w2, w2 = w1.drew := ⟨_, rfl⟩
  rw [← hw2] at HA2 HZ2 HK2 ⊢
  clear hw2 hws
  have h6 : w2.cell? ⟨g, 6, none⟩ = some (.int .i64 nx) := (bZ HA2.out 6).trans rfl
  have h4 : w2.cell? ⟨g, 4, none⟩ = some (.int .i64 nb) := (bZ HA2.out 4).trans rfl
  have hf4 := fZ HA2.out 4
  have hf6 := fZ HA2.out 6
  have hwn : wrap64 ((nx : Int) + (k : Int)) = (nx : Int) + (k : Int) := wrap_in (by omega) (by omega)
  have hwk : wrap64 ((k : Int) - 1) = (k : Int) - 1 := wrap_in (by omega) (by omega)
  go_wp2_with fail
  have HA4 := Az.mk ((HA2.out.set4 nx).set6 (.int .i64 ((nx : Int) + (k : Int))))
  have HZ4 : Az (Below Wz.heap.size Wz ((w2.setCell ⟨g, 4, none⟩ (.int .i64 nx)).setCell ⟨g, 6, none⟩ (.int .i64 ((nx : Int) + (k : Int))))) := ⟨sZ (sZ HZ2.out HG.out) HG.out⟩
  have HK4 : Az (KeepBut w ((w2.setCell ⟨g, 4, none⟩ (.int .i64 nx)).setCell ⟨g, 6, none⟩ (.int .i64 ((nx : Int) + (k : Int)))) g none) := ⟨(HK2.out.set_ 4 _).set_ 6 _⟩
  obtain ⟨w4, hw4⟩ : ∃ w4, w4 = (w2.setCell ⟨g, 4, none⟩ (.int .i64 nx)).setCell ⟨g, 6, none⟩ (.int .i64 ((nx : Int) + (k : Int))) := ⟨_, rfl⟩
  rw [← hw4] at HA4 HZ4 HK4 ⊢
  clear hw4 h6 h4 hf4 hf6 hwn hwk HA2 HZ2 HK2
  have Hk := Az.mk hk
  have H0 := Az.mk h0
  have hk8 : k ≤ 8 := hk.2
  have HA4' : Az (AskW w4 g 80 (rdR Ab bs.length cb ((nx + k : Nat) : Int)) G A n c B locs nx) := ⟨by rw [show ((nx + k : Nat) : Int) = (nx : Int) + (k : Int) from Int.natCast_add nx k]; exact HA4.out⟩
  clear hHeld hk HA4
  go_loopw [5, 6] (fun v5 v6 w' => ∃ m : Nat, m ≤ k ∧ v6 = .int .i64 ((k : Int) - 1 - (m : Int)) ∧ v5 = .int .u64 (upN bs nx k m) ∧ Az (AskW w' g 80 (rdR Ab bs.length cb ((nx + k : Nat) : Int)) G A n c B locs nx) ∧ Az (Below Wz.heap.size Wz w') ∧ Az (KeepBut w w' g none)) (fun _ i _ => (intOf i + 1).toNat)
  case atStart => exact ⟨0, Nat.zero_le _, by simp, rfl, HA4', HZ4, HK4⟩
  case round =>
   obtain ⟨m, hmk, rfl, rfl, HA5, HZ5, HK5⟩ := hrel
   clear HA4' HZ4 HK4
   by_cases hlt : m < k
   ·obtain ⟨i, hi⟩ : ∃ i : Nat, i = k - 1 - m := ⟨_, rfl⟩
    have hie : (k : Int) - 1 - (m : Int) = (i : Int) := by omega
    obtain ⟨p, hp⟩ : ∃ p : Nat, p = nx + i := ⟨_, rfl⟩
    have hpe : wrap64 ((nx : Int) + (i : Int)) = (p : Int) := by rw [wrap_in (by omega) (by omega)]; omega
    have i0 : (0 : Int) ≤ (i : Int) := Int.natCast_nonneg i
    have p0 : (0 : Int) ≤ (p : Int) := Int.natCast_nonneg p
    have p1 : (p : Int) < (nb : Int) := by omega
    have hpl : p < bs.length := by rw [← Hn.out]; omega
    have hwi : wrap64 ((i : Int) - 1) = (i : Int) - 1 := wrap_in (by omega) (by omega)
    obtain ⟨ad, e0, hrx⟩ := Kd.at_int (Kd.C_below HBs.out HZ5.out) (p : Int) p0 (by rw [← Hn.out]; exact p1)
    cases e0
    simp only [Int.toNat_natCast] at hrx
    rw [rd_at bs p hpl] at hrx
    have hbx := HBy.out bs[p] (List.getElem_mem hpl)
    have HX : Az (upN bs nx k (m + 1) = upN bs nx k m * 256 + bs[p]) := ⟨by show _ + bs.getD (nx + (k - 1 - m)) 0 = _; rw [← hi, ← hp, List.getD_eq_getElem?_getD, List.getElem?_eq_getElem hpl]; rfl⟩
    obtain ⟨x, hx⟩ : ∃ x, x = bs[p] := ⟨_, rfl⟩
    rw [← hx] at hrx hbx HX
    obtain ⟨U, hU⟩ : ∃ U, U = upN bs nx k m := ⟨_, rfl⟩
    have HU := Az.mk hU
    rw [← hU] at HX ⊢
    rw [hie]
    have hie2 := hie
    clear hx hU hi hie hp hpl
    have h5 : wr.cell? ⟨g, 5, none⟩ = some (.slice (some ad) nb cb) := by rw [Hn.out]; exact (bZ HA5.out 5).trans rfl
    have h4 : wr.cell? ⟨g, 4, none⟩ = some (.int .i64 nx) := (bZ HA5.out 4).trans rfl
    go_wp2_with fail
    refine start_ (n := 18) (S := fun w' => w'.cell? ⟨g, 5, none⟩ = some (.slice (some ad) nb cb) ∧ w'.cell? ⟨g, 4, none⟩ = some (.int .i64 nx) ∧ w'.cell? (ad.add p) = some (.int .u8 x)) (ds := []) #[false, false, false, false, false, false, false, false, false, false, false, false, false, false, false, false, false, false] (by kernel_rfl) rfl rfl ⟨h5, h4, hrx⟩ (fun hHeld => ?_)
    refine with_tabW TAB_43.tab9 TAB_43.bits9 (fun HT_ HW_ => ?_)
    refine pq 0 (some 54) HT_ rfl rfl (fun _ _ _ h => h) ?_
    refine pq 1 (some 55) HT_ rfl rfl (fun _ _ _ h => h) ?_
    refine pq 2 (some 56) HT_ rfl rfl (fun _ _ _ h => h) ?_
    refine pq 3 (some 57) HT_ rfl rfl (fun _ _ _ h => h) ?_
    refine pq 4 (some 58) HT_ rfl rfl (fun _ _ _ h => h) ?_
    refine pq 6 (some 60) HT_ rfl rfl (fun _ _ _ h => h) ?_
    refine pq 7 (some 61) HT_ rfl rfl (fun _ _ _ h => h) ?_
    refine pq 8 (some 62) HT_ rfl rfl (fun _ _ _ h => h) ?_
    refine pq 9 (some 63) HT_ rfl rfl (fun _ _ _ h => h) ?_
    refine pq 11 (some 65) HT_ rfl rfl (fun _ _ _ h => h) ?_
    refine pt 5 (some 59) (v := ?_) (a' := ?_) rfl rfl (take_ofW HT_.out HW_.out (by kernel_rfl)) (fun _ _ _ h => h) (Or.inl ⟨by rfl, ?_⟩) hHeld ?_ ?_
    rotate_left; (rintro w' ⟨s0, s1, s2⟩; go_simp; with_reducible rfl); rotate_left; (simp only [Act.put, pn, i64_w, i32_w]; rfl)
    refine pt 10 (some 64) (v := ?_) (a' := ?_) rfl rfl (take_ofW HT_.out HW_.out (by kernel_rfl)) (fun _ _ _ h => h) (Or.inl ⟨by rfl, ?_⟩) hHeld ?_ ?_
    rotate_left; (rintro w' ⟨s0, s1, s2⟩; go_simp; with_reducible rfl); rotate_left; (simp only [Act.put, pn, i64_w, i32_w]; rfl)
    refine pq 12 (some 66) HT_ rfl rfl (fun _ _ _ h => h) ?_
    refine pq 13 (some 67) HT_ rfl rfl (fun _ _ _ h => h) ?_
    refine pt 14 (some 68) (v := ?_) (a' := ?_) rfl rfl (take_ofW HT_.out HW_.out (by kernel_rfl)) (fun _ _ _ h => h) (Or.inl ⟨by rfl, ?_⟩) hHeld ?_ ?_
    rotate_left; (rintro w' ⟨s0, s1, s2⟩; go_simp; with_reducible rfl); rotate_left; (simp only [Act.put, pn, i64_w, i32_w]; rfl)
    refine pq 15 (some 69) HT_ rfl rfl (fun _ _ _ h => h) ?_
    refine pq 16 (some 70) HT_ rfl rfl (fun _ _ _ h => h) ?_
    refine pq 17 (some 5) HT_ rfl rfl (fun _ _ _ h => h) ?_
    refine done_ (done_of HT_.out (by kernel_rfl)) ?_
    clear hHeld HT_ HW_ h5 h4 hrx
    have HA6 : Az (AskW wr.drew g 80 (rdR (some ad) bs.length cb ((nx + k : Nat) : Int)) G A n c B locs nx) := ⟨HA5.out⟩
    have HZ6 : Az (Below Wz.heap.size Wz wr.drew) := ⟨below_drew HZ5.out⟩
    have HK6 : Az (KeepBut w wr.drew g none) := ⟨HK5.out⟩
    have HO : bits .or .u64 (IntKind.u64.wrap (U * 256)) (IntKind.u64.wrap x) = upN bs nx k (m + 1) := by rw [HX.out]; exact or_bytes U x (by rw [HU.out]; exact upN_small bs nx k HBy.out m (by omega)) hbx
    rw [HO]
    clear HO
    go_wp2_with fail
    go_roundw
    case rel => exact ⟨m + 1, by omega, by rw [show (k : Int) - 1 - ((m + 1 : Nat) : Int) = (i : Int) - 1 from by omega], rfl, HA6, HZ6, HK6⟩
    case measure => first | (simp [intOf]; done) | (simp [intOf]; omega)
   ·obtain rfl : k = m := by omega
    have hneg : decide ((0 : Int) ≤ (k : Int) - 1 - (k : Int)) = false := decide_eq_false (by omega)
    go_wp2_with fail
    go_ret
    exact ⟨by rw [if_pos (by rw [← Hn.out]; exact H0.out)]; rfl, fun _ => HA5.out, HZ5.out, HK5.out⟩
 ·have hc : decide ((k : Int) ≤ (nb : Int) - (nx : Int)) = false := decide_eq_false (by omega)
  refine start_ (n := 16) (S := fun w' => w'.cell? ⟨g, 5, none⟩ = some (.slice Ab nb cb) ∧ w'.cell? ⟨g, 6, none⟩ = some (.int .i64 nx)) (ds := []) #[false, false, false, false, false, false, false, false, false, false, false, false, false, false, false, false] (by kernel_rfl) rfl rfl ⟨h5, h6⟩ (fun hHeld => ?_)
  refine with_tabW TAB_43.tab2 TAB_43.bits2 (fun HT_ HW_ => ?_)
  refine pq 0 (some 16) HT_ rfl rfl (fun _ _ _ h => h) ?_
  refine pq 1 (some 17) HT_ rfl rfl (fun _ _ _ h => h) ?_
  refine pq 2 (some 18) HT_ rfl rfl (fun _ _ _ h => h) ?_
  refine pq 3 (some 19) HT_ rfl rfl (fun _ _ _ h => h) ?_
  refine pq 4 (some 20) HT_ rfl rfl (fun _ _ _ h => h) ?_
  refine pq 5 (some 21) HT_ rfl rfl (fun _ _ _ h => h) ?_
  refine pq 8 (some 24) HT_ rfl rfl (fun _ _ _ h => h) ?_
  refine pq 9 (some 25) HT_ rfl rfl (fun _ _ _ h => h) ?_
  refine pq 10 (some 26) HT_ rfl rfl (fun _ _ _ h => h) ?_
  refine pq 13 (some 29) HT_ rfl rfl (fun _ _ _ h => h) ?_
  refine pt 6 (some 22) (v := ?_) (a' := ?_) rfl rfl (take_ofW HT_.out HW_.out (by kernel_rfl)) (fun _ _ _ h => h) (Or.inl ⟨by rfl, ?_⟩) hHeld ?_ ?_
  rotate_left; (rintro w' ⟨s0, s1⟩; go_simp; with_reducible rfl); rotate_left; (simp only [Act.put, pn, i64_w, i32_w]; rfl)
  refine pq 7 (some 23) HT_ rfl rfl (fun _ _ _ h => h) ?_
  refine pt 11 (some 27) (v := ?_) (a' := ?_) rfl rfl (take_ofW HT_.out HW_.out (by kernel_rfl)) (fun _ _ _ h => h) (Or.inl ⟨by rfl, ?_⟩) hHeld ?_ ?_
  rotate_left; (rintro w' ⟨s0, s1⟩; go_simp; with_reducible rfl); rotate_left; (simp only [Act.put, pn, i64_w, i32_w]; rfl)
  refine pq 12 (some 28) HT_ rfl rfl (fun _ _ _ h => h) ?_
  refine pq 14 (some 30) HT_ rfl rfl (fun _ _ _ h => h) ?_
  refine one_ (i := 15) (N := some 31) #[true, true, true, true, true, true, true, true, true, true, true, true, true, true, true, true] rfl rfl (one_of HT_.out (by kernel_rfl)) (by decide) (fun K hK => ?_)
  refine goesP_ Tryd.func42 (by kernel_rfl) rfl #[.pointer (some ⟨g, 0, none⟩), .bool false, .int .i64 11] (by rfl) rfl rfl (by simp only [List.map_toArray, List.map_cons, List.map_nil]; rfl) ?_
  with_reducible refine (must_false _ _ _ _ H4.out).mono ?_
  rintro e_ wm ⟨rfl, rfl⟩
  refine ⟨_, rfl, ?_⟩
  exact ⟨rfl, by rw [← Hn.out, if_neg h0], fun h => absurd (Hn.out ▸ h) h0, below_drew HZ1.out, HK1.out⟩
end Go.Proofs.YteonppgdmhakoaaDoor.PC
namespace Go.Proofs.YteonppgdmhakoaaDoor.PC
open Go.RowKit Go.Proofs.YteonppgdmhakoaaDoorW.PrintWords Go.Proofs.YteonppgdmhakoaaDoorW.PrintLast Go.Proofs.YteonppgdmhakoaaDoorW.PrintMore
attribute [local go_sem] max2_int min2_int max_two min_two
set_option linter.unusedVariables false
set_option linter.unusedSimpArgs false
def TAB_46.T2 : Bool × List (List Nat × List Nat) := (true, [([], []), ([0], [0]), ([1], [1]), ([2], [2]), ([], []), ([4], [4]), ([5], [5]), ([6], [6]), ([7], [7]), ([], []), ([9], [9]), ([10], [10]), ([11], [11]), ([3, 8, 12], [3, 8, 12]), ([13, 0, 1, 2, 3, 4, 5, 6, 7, 8, 9, 10, 11, 12, 13], [13])])
def TAB_46.B2 : List Nat := [0, 1, 3, 7, 0, 16, 48, 112, 240, 0, 512, 1536, 3584, 8191, 16383]
theorem TAB_46.tab2 : rtab .any (opsOf Tryd.f46 2) = TAB_46.T2 := by kernel_rfl
theorem TAB_46.bits2 : waitsOk TAB_46.T2.2 TAB_46.B2 = true := by kernel_rfl
def TAB_46.T3 : Bool × List (List Nat × List Nat) := (true, [([], []), ([0], [0]), ([1], [1]), ([2], [2]), ([], []), ([4], [4]), ([5], [5]), ([6], [6]), ([], []), ([8], [8]), ([9], [9]), ([10], [10]), ([3, 7, 11], [3, 7, 11]), ([], []), ([13, 12, 0, 1, 2, 3, 4, 5, 6, 7, 8, 9, 10, 11, 12, 13], [12, 13])])
def TAB_46.B3 : List Nat := [0, 1, 3, 7, 0, 16, 48, 112, 0, 256, 768, 1792, 4095, 0, 16383]
theorem TAB_46.tab3 : rtab .any (opsOf Tryd.f46 3) = TAB_46.T3 := by kernel_rfl
theorem TAB_46.bits3 : waitsOk TAB_46.T3.2 TAB_46.B3 = true := by kernel_rfl
def TAB_46.T4 : Bool × List (List Nat × List Nat) := (true, [([], []), ([0], [0]), ([1], [1]), ([2], [2]), ([], []), ([4], [4]), ([5], [5]), ([6], [6]), ([7], [7]), ([3, 8], [3, 8]), ([9, 0, 1, 2, 3, 4, 5, 6, 7, 8, 9], [9])])
def TAB_46.B4 : List Nat := [0, 1, 3, 7, 0, 16, 48, 112, 240, 511, 1023]
theorem TAB_46.tab4 : rtab .any (opsOf Tryd.f46 4) = TAB_46.T4 := by kernel_rfl
theorem TAB_46.bits4 : waitsOk TAB_46.T4.2 TAB_46.B4 = true := by kernel_rfl
def TAB_46.T6 : Bool × List (List Nat × List Nat) := (true, [([], []), ([], []), ([1], [1]), ([2], [2]), ([3], [3]), ([4], [4]), ([5], [5]), ([], []), ([7], [7]), ([6, 8], [6, 8]), ([0, 0, 1, 2, 3, 4, 5, 6, 7, 8, 9], [0]), ([10, 0, 1, 2, 3, 4, 5, 6, 7, 8, 9], [10]), ([11, 0, 1, 2, 3, 4, 5, 6, 7, 8, 9], [11]), ([12, 0, 1, 2, 3, 4, 5, 6, 7, 8, 9], [12]), ([13, 9, 9, 0, 1, 2, 3, 4, 5, 6, 7, 8, 9], [9, 13])])
def TAB_46.B6 : List Nat := [0, 0, 2, 6, 14, 30, 62, 0, 128, 510, 1023, 2047, 4095, 8191, 16383]
theorem TAB_46.tab6 : rtab .any (opsOf Tryd.f46 6) = TAB_46.T6 := by kernel_rfl
theorem TAB_46.bits6 : waitsOk TAB_46.T6.2 TAB_46.B6 = true := by kernel_rfl
structure HV where
 P : Int
 R : Int
 V : Int
 c : Value
 one : c.oneCell' = true
def HV.enc (x : HV) : List Value := [.int .i64 x.P, .int .i64 x.R, .int .i64 x.V, x.c]
def kH : Kd HV where
 sz := 4
 E := []
 K := fun _ x cs => cs = x.enc
 M := fun _ _ _ x cs => cs = x.enc
 K_len := fun h => by subst h; rfl
 K_one := fun {_ x _} h u hu => by
  subst h
  simp only [HV.enc, List.mem_cons, List.not_mem_nil, or_false] at hu
  rcases hu with rfl | rfl | rfl | rfl
  ·rfl
  ·rfl
  ·rfl
  ·exact x.one
 K_below := fun _ h => h
 K_of_M := fun h => h
 M_mono := fun _ h => h
 M_bound := fun h => h
 M_move := fun _ h => h
 M_lower := fun _ h => h
def KeepT (ts : List TypeId) (g : Nat) (w w' : World) : Prop := ∀ (k : Nat) (cs : Array Value) (t : TypeId), t ∉ ts → k ≠ g → w.heap[k]? = some (Obj.cells cs t (0, 0)) → w'.heap[k]? = some (Obj.cells cs t (0, 0))
theorem KeepT.trans {ts : List TypeId} {g : Nat} {a b c : World} (h : KeepT ts g a b) (h' : KeepT ts g b c) : KeepT ts g a c := fun k cs t ht hk hc => h' k cs t ht hk (h k cs t ht hk hc)
theorem KeepT.of_keep {ts : List TypeId} {g : Nat} {w w' : World} (h : KeepBut w w' g none) : KeepT ts g w w' := fun k cs t _ hk hc => h.blk hc hk (by simp)
theorem KeepT.row {α : Type} {d : Kd α} {ts : List TypeId} {e g base : Nat} {ok : Nat → Prop} {w w' : World} {v : Value} {xs : List α} (h : KeepT ts g w w') (hO : d.R e w base ok v xs) (ht : ∀ q, q ∈ e :: d.E → q ∉ ts) (hok : ∀ k, ok k → k ≠ g) : d.R e w' base ok v xs := by
 refine Kd.R_mono (Kd.R_move (Kd.R_bound hO) fun k hk => ?_) (fun _ hk => hk.1)
 obtain ⟨h1, _, _, q, hq, cells, hc⟩ := hk
 rw [hc]
 exact h k cells q (ht q hq) (hok k h1) hc
theorem KeepT.grown {α : Type} {d : Kd α} {ts : List TypeId} {e g base : Nat} {ok : Nat → Prop} {w w' : World} {v : Value} {xs : List α} (hO : d.R e w base ok v xs) (he : e ∈ ts) (hg : w.grownBy w' v.ownBlock) : KeepT ts g w w' := fun k cs t ht hk hc => by
 obtain ⟨_, inner, ho, _⟩ := hO
 refine blk_grown hc hg fun e' => ?_
 obtain ⟨cells, hc2⟩ := own_typed ho k e'.symm
 rw [hc] at hc2
 injection hc2 with hc2
 injection hc2 with _ hc2
 exact ht (hc2 ▸ he)
def hvOf (bs : List Int) (nx : Nat) : HV := ⟨bs.getD nx 0, bs.getD (nx + 1) 0, bs.getD (nx + 2) 0, .slice none 0 0, rfl⟩
def hvN (bs : List Int) (nx : Nat) : Int := bs.getD (nx + 3) 0 + bs.getD (nx + 4) 0 * 256
def hvE (bs : List Int) (nx : Nat) (locs : Int) : Int := headE locs (hvOf bs nx).P (hvOf bs nx).R (hvOf bs nx).V (hvN bs nx)
def HeadRd (Wz wp w : World) (g : Nat) (Ab : Option Addr) (cb : Nat) (bs : List Int) (nx : Nat) (G : Int) (hs : List HV) (B : Nat) (locs : Int) (e : Ending) (w' : World) : Prop :=
 e = (if nx + 5 ≤ bs.length then (if hvE bs nx locs = 0 then .returned (.int .i64 (hvN bs nx)) else .panicked [{ v := stopV (hvE bs nx locs) nx, recovered := false }]) else .panicked [{ v := stopV 11 bs.length, recovered := false }]) ∧
 (nx + 5 ≤ bs.length → hvE bs nx locs = 0 → ∃ A' c', AskW w' g 80 (rdR Ab bs.length cb ((nx + 5 : Nat) : Int)) G A' (hs.length + 1) c' B (locs + (hvOf bs nx).V) nx ∧ kH.R 46 w' wp.heap.size (fun k => wp.heap.size ≤ k) (.slice A' (hs.length + 1) c') (hs ++ [hvOf bs nx])) ∧
 Below Wz.heap.size Wz w' ∧ KeepBut wp w' g none ∧ KeepT [46] g w w'
set_option maxRecDepth 100000 in
set_option maxHeartbeats 8000000 in
theorem head_rd (g : Nat) (G : Int) (A : Option Addr) (c B : Nat) (locs at_ : Int) (Ab : Option Addr) (cb : Nat) (bs : List Int) (nx : Nat) (Wz wp w : World) (hs : List HV) (hz : Below Wz.heap.size Wz w) (hg : Wz.heap.size ≤ g) (hgp : g < wp.heap.size) (hkp : KeepBut wp w g none)
  (hA : AskW w g 80 (rdR Ab bs.length cb nx) G A hs.length c B locs at_) (hB : kB.C Wz Ab bs.length bs) (hnx : nx ≤ bs.length) (hcb : bs.length ≤ cb) (hby : ∀ x ∈ bs, 0 ≤ x ∧ x ≤ 255) (hl0 : 0 ≤ locs) (hl1 : locs < 1048576)
  (hF : kH.R 46 w wp.heap.size (fun k => wp.heap.size ≤ k) (.slice A hs.length c) hs) (hn : hs.length ≤ 65535) :
  Calls Tryd.prog 46 #[.pointer (some ⟨g, 0, none⟩)] w fun e w' => HeadRd Wz wp w g Ab cb bs nx G hs B locs e w' := by
 have HN := Az.mk (number_rd g 5 (by omega) G A hs.length c B locs at_ Ab cb bs nx Wz w hz hg hA hB hnx hby)
 have HZ := Az.mk hz
 have HG := Az.mk hg
 have HGp := Az.mk hgp
 have HKp := Az.mk hkp
 have HBs := Az.mk hB
 have HBy := Az.mk hby
 have HF := Az.mk hF
 have HLt := Az.mk (Kd.R_lt hF)
 have HL := Az.mk (And.intro hl0 hl1)
 have HHn := Az.mk hn
 have HCb := Az.mk hcb
 have HNx := Az.mk hnx
 have hm : bs.length ≤ 9223372036854775807 := Kd.C_max hB
 obtain ⟨nb, hn⟩ : ∃ nb, nb = bs.length := ⟨_, rfl⟩
 have Hn := Az.mk hn
 rw [← hn] at hm hnx
 clear hA hz hg hgp hkp hB hn hby hF hl0 hl1
 go_enter Tryd.func46, Tryd.ntmps46
 go_wp2_with fail
 refine HN.out.mono ?_
 rintro e w' ⟨rfl, hA1, hZ1, hK1⟩
 have HZ1 := Az.mk hZ1
 have HK1 := Az.mk hK1
 clear hZ1 hK1 HN
 by_cases h0 : nx + 5 ≤ bs.length
 ·have HA1 := Az.mk (hA1 h0)
  rw [if_pos h0]
  have H0 := Az.mk h0
  clear hA1 h0
  obtain ⟨w1, rfl⟩ : ∃ w1, w1 = w' := ⟨_, rfl⟩
  have h4 : w1.cell? ⟨g, 4, none⟩ = some (.int .i64 nx) := (bZ HA1.out 4).trans rfl
  have h5 : w1.cell? ⟨g, 5, none⟩ = some (.slice Ab nb cb) := by rw [Hn.out]; exact (bZ HA1.out 5).trans rfl
  obtain ⟨e5, he5⟩ : ∃ e5, e5 = nx + 5 := ⟨_, rfl⟩
  have h6 : w1.cell? ⟨g, 6, none⟩ = some (.int .i64 (e5 : Int)) := by rw [he5]; exact (bZ HA1.out 6).trans rfl
  have hcb0 := HCb.out
  have hb0 := H0.out
  have n0 : (0 : Int) ≤ (nx : Int) := Int.natCast_nonneg nx
  have n5 : nx ≤ e5 := by omega
  have n6 : e5 ≤ cb := by omega
  have n7 : (e5 : Int) ≤ (cb : Int) := by omega
  have n8 : ¬ cb = nx := by omega
  have n9 : e5 - nx = 5 := by omega
  clear hcb hcb0 hb0
  have HE5 := Az.mk he5
  clear he5
  go_wp2_with fail
  obtain ⟨ad, hAd, -⟩ := Kd.at_int HBs.out (nx : Int) n0 (by have := H0.out; omega)
  subst hAd
  refine start_ (n := 15) (S := fun w' => w'.cell? ⟨g, 4, none⟩ = some (.int .i64 nx) ∧ w'.cell? ⟨g, 5, none⟩ = some (.slice (some ad) nb cb) ∧ w'.cell? ⟨g, 6, none⟩ = some (.int .i64 (e5 : Int))) (ds := []) #[false, false, false, false, false, false, false, false, false, false, false, false, false, false, false] (by kernel_rfl) rfl rfl ⟨h4, h5, h6⟩ (fun hHeld => ?_)
  refine with_tabW TAB_46.tab2 TAB_46.bits2 (fun HT_ HW_ => ?_)
  refine pq 0 (some 8) HT_ rfl rfl (fun _ _ _ h => h) ?_
  refine pq 1 (some 9) HT_ rfl rfl (fun _ _ _ h => h) ?_
  refine pq 2 (some 10) HT_ rfl rfl (fun _ _ _ h => h) ?_
  refine pq 4 (some 12) HT_ rfl rfl (fun _ _ _ h => h) ?_
  refine pq 5 (some 13) HT_ rfl rfl (fun _ _ _ h => h) ?_
  refine pq 6 (some 14) HT_ rfl rfl (fun _ _ _ h => h) ?_
  refine pq 7 (some 15) HT_ rfl rfl (fun _ _ _ h => h) ?_
  refine pq 9 (some 17) HT_ rfl rfl (fun _ _ _ h => h) ?_
  refine pq 10 (some 18) HT_ rfl rfl (fun _ _ _ h => h) ?_
  refine pq 11 (some 19) HT_ rfl rfl (fun _ _ _ h => h) ?_
  refine pt 3 (some 11) (v := ?_) (a' := ?_) rfl rfl (take_ofW HT_.out HW_.out (by kernel_rfl)) (fun _ _ _ h => h) (Or.inl ⟨by rfl, ?_⟩) hHeld ?_ ?_
  rotate_left; (rintro w' ⟨s0, s1, s2⟩; go_simp; with_reducible rfl); rotate_left; (simp only [Act.put, pn, i64_w, i32_w]; rfl)
  refine pt 8 (some 16) (v := ?_) (a' := ?_) rfl rfl (take_ofW HT_.out HW_.out (by kernel_rfl)) (fun _ _ _ h => h) (Or.inl ⟨by rfl, ?_⟩) hHeld ?_ ?_
  rotate_left; (rintro w' ⟨s0, s1, s2⟩; go_simp; with_reducible rfl); rotate_left; (simp only [Act.put, pn, i64_w, i32_w]; rfl)
  refine pt 12 (some 20) (v := ?_) (a' := ?_) rfl rfl (take_ofW HT_.out HW_.out (by kernel_rfl)) (fun _ _ _ h => h) (Or.inl ⟨by rfl, ?_⟩) hHeld ?_ ?_
  rotate_left; (rintro w' ⟨s0, s1, s2⟩; go_simp; with_reducible rfl); rotate_left; (simp only [Act.put, pn, i64_w, i32_w]; rfl)
  refine pq 13 (some 21) HT_ rfl rfl (fun _ _ _ h => h) ?_
  refine pq 14 (some 3) HT_ rfl rfl (fun _ _ _ h => h) ?_
  refine done_ (done_of HT_.out (by kernel_rfl)) ?_
  clear hHeld HT_ HW_ h4 h5 h6 n6 n7 n8 n9
  have HA2 : Az (AskW w1.drew g 80 (rdR (some ad) bs.length cb ((nx + 5 : Nat) : Int)) G A hs.length c B locs nx) := ⟨HA1.out⟩
  have HZ2 : Az (Below Wz.heap.size Wz w1.drew) := ⟨below_drew HZ1.out⟩
  have HK2 : Az (KeepBut w w1.drew g none) := ⟨HK1.out⟩
  clear HA1 HZ1 HK1
  obtain ⟨w2, hw2⟩ : ∃ w2, w2 = w1.drew := ⟨_, rfl⟩
  rw [← hw2] at HA2 HZ2 HK2 ⊢
  clear hw2
  have hxs : ∀ i : Nat, i < 5 → w2.cell? ((ad.add nx).add i) = some (.int .u8 (bs.getD (nx + i) 0)) := fun i hi => by
   have hl : nx + i < bs.length := by have := H0.out; omega
   obtain ⟨ad', e0, hrx⟩ := Kd.at_int (Kd.C_below HBs.out HZ2.out) ((nx + i : Nat) : Int) (Int.natCast_nonneg _) (by omega)
   injection e0 with e0
   subst e0
   rw [Int.toNat_natCast, rd_at bs (nx + i) hl] at hrx
   rw [Addr.add_add, hrx, List.getD_eq_getElem?_getD, List.getElem?_eq_getElem hl]
   rfl
  have hbd : ∀ i : Nat, i < 5 → 0 ≤ bs.getD (nx + i) 0 ∧ bs.getD (nx + i) 0 ≤ 255 := fun i hi => by
   have hl : nx + i < bs.length := by have := H0.out; omega
   rw [List.getD_eq_getElem?_getD, List.getElem?_eq_getElem hl]
   exact HBy.out _ (List.getElem_mem hl)
  have HHv : Az (hvOf bs nx = ⟨bs.getD (nx + 0) 0, bs.getD (nx + 1) 0, bs.getD (nx + 2) 0, .slice none 0 0, rfl⟩) := ⟨rfl⟩
  have HNv : Az (hvN bs nx = bs.getD (nx + 3) 0 + bs.getD (nx + 4) 0 * 256) := ⟨rfl⟩
  have hx0 := hxs 0 (by omega)
  have hx1 := hxs 1 (by omega)
  have hx2 := hxs 2 (by omega)
  have hx3 := hxs 3 (by omega)
  have hx4 := hxs 4 (by omega)
  have hb0 := hbd 0 (by omega)
  have hb1 := hbd 1 (by omega)
  have hb2 := hbd 2 (by omega)
  have hb3 := hbd 3 (by omega)
  have hb4 := hbd 4 (by omega)
  obtain ⟨x0, e0⟩ : ∃ x, x = bs.getD (nx + 0) 0 := ⟨_, rfl⟩
  obtain ⟨x1, e1⟩ : ∃ x, x = bs.getD (nx + 1) 0 := ⟨_, rfl⟩
  obtain ⟨x2, e2⟩ : ∃ x, x = bs.getD (nx + 2) 0 := ⟨_, rfl⟩
  obtain ⟨x3, e3⟩ : ∃ x, x = bs.getD (nx + 3) 0 := ⟨_, rfl⟩
  obtain ⟨x4, e4⟩ : ∃ x, x = bs.getD (nx + 4) 0 := ⟨_, rfl⟩
  rw [← e0] at hx0 hb0 HHv
  rw [← e1] at hx1 hb1 HHv
  rw [← e2] at hx2 hb2 HHv
  rw [← e3] at hx3 hb3 HNv
  rw [← e4] at hx4 hb4 HNv
  rw [Addr.add_zero'] at hx0
  obtain ⟨ab, hab⟩ : ∃ ab, ab = ad.add nx := ⟨_, rfl⟩
  rw [← hab] at hx0 hx1 hx2 hx3 hx4 ⊢
  clear hxs hbd e0 e1 e2 e3 e4 hab
  replace hx1 : w2.cell? ⟨ab.block, ab.off + 1, none⟩ = some (.int .u8 x1) := hx1
  replace hx2 : w2.cell? ⟨ab.block, ab.off + 2, none⟩ = some (.int .u8 x2) := hx2
  replace hx3 : w2.cell? ⟨ab.block, ab.off + 3, none⟩ = some (.int .u8 x3) := hx3
  replace hx4 : w2.cell? ⟨ab.block, ab.off + 4, none⟩ = some (.int .u8 x4) := hx4
  go_wp2_with fail
  refine start_ (n := 15) (S := fun w' => w'.cell? ab = some (.int .u8 x0) ∧ w'.cell? ⟨ab.block, ab.off + 1, none⟩ = some (.int .u8 x1) ∧ w'.cell? ⟨ab.block, ab.off + 2, none⟩ = some (.int .u8 x2)) (ds := []) #[false, false, false, false, false, false, false, false, false, false, false, false, false, false, false] (by kernel_rfl) rfl rfl ⟨hx0, hx1, hx2⟩ (fun hHeld => ?_)
  refine with_tabW TAB_46.tab3 TAB_46.bits3 (fun HT_ HW_ => ?_)
  refine pq 0 (some 22) HT_ rfl rfl (fun _ _ _ h => h) ?_
  refine pq 1 (some 23) HT_ rfl rfl (fun _ _ _ h => h) ?_
  refine pq 4 (some 26) HT_ rfl rfl (fun _ _ _ h => h) ?_
  refine pq 5 (some 27) HT_ rfl rfl (fun _ _ _ h => h) ?_
  refine pq 8 (some 30) HT_ rfl rfl (fun _ _ _ h => h) ?_
  refine pq 9 (some 31) HT_ rfl rfl (fun _ _ _ h => h) ?_
  refine pt 2 (some 24) (v := ?_) (a' := ?_) rfl rfl (take_ofW HT_.out HW_.out (by kernel_rfl)) (fun _ _ _ h => h) (Or.inl ⟨by rfl, ?_⟩) hHeld ?_ ?_
  rotate_left; (rintro w' ⟨s0, s1, s2⟩; go_simp; with_reducible rfl); rotate_left; (simp only [Act.put, pn, i64_w, i32_w]; rfl)
  refine pq 3 (some 25) HT_ rfl rfl (fun _ _ _ h => h) ?_
  refine pt 6 (some 28) (v := ?_) (a' := ?_) rfl rfl (take_ofW HT_.out HW_.out (by kernel_rfl)) (fun _ _ _ h => h) (Or.inl ⟨by rfl, ?_⟩) hHeld ?_ ?_
  rotate_left; (rintro w' ⟨s0, s1, s2⟩; go_simp; with_reducible rfl); rotate_left; (simp only [Act.put, pn, i64_w, i32_w]; rfl)
  refine pq 7 (some 29) HT_ rfl rfl (fun _ _ _ h => h) ?_
  refine pt 10 (some 32) (v := ?_) (a' := ?_) rfl rfl (take_ofW HT_.out HW_.out (by kernel_rfl)) (fun _ _ _ h => h) (Or.inl ⟨by rfl, ?_⟩) hHeld ?_ ?_
  rotate_left; (rintro w' ⟨s0, s1, s2⟩; go_simp; with_reducible rfl); rotate_left; (simp only [Act.put, pn, i64_w, i32_w]; rfl)
  refine pq 11 (some 33) HT_ rfl rfl (fun _ _ _ h => h) ?_
  refine pq 12 (some 34) HT_ rfl rfl (fun _ _ _ h => h) ?_
  refine one_ (i := 13) (N := some 4) #[true, true, true, true, true, true, true, true, true, true, true, true, true, true, false] rfl rfl (one_of HT_.out (by kernel_rfl)) (by decide) (fun K hK => ?_)
  refine value_ (w1 := ?_) (v := ?_) (by rfl) rfl ?_ ?_
  rotate_left 2
  ·go_simp
   constructor
   ·rfl
   ·rfl
  refine hK.out _ _ ⟨cZ (lZ (Below.refl _ _) _) hx0, cZ (lZ (Below.refl _ _) _) hx1, cZ (lZ (Below.refl _ _) _) hx2⟩ (fun hHeld => ?_)
  clear hK K
  refine norm_ (a' := ?_) ?_ ?_
  rotate_left
  ·show Act.put _ (some 4) _ = _
   simp only [Act.put, pn, i64_w, i32_w]
   rfl
  refine one_ (i := 14) (N := none) #[true, true, true, true, true, true, true, true, true, true, true, true, true, true, true] rfl rfl (one_of HT_.out (by kernel_rfl)) (by decide) (fun K hK => ?_)
  refine skip_ (w1 := ?_) (by rfl) rfl ?_ ?_
  rotate_left
  ·go_simp
   rfl
  refine hK.out _ _ ⟨cZ (lZ (Below.refl _ _) _) hx0, cZ (lZ (Below.refl _ _) _) hx1, cZ (lZ (Below.refl _ _) _) hx2⟩ (fun hHeld => ?_)
  clear hK K
  refine done_ (done_of HT_.out (by kernel_rfl)) ?_
  rw [wrap_in (show -9223372036854775808 ≤ x0 by omega) (by omega), wrap_in (show -9223372036854775808 ≤ x1 by omega) (by omega), wrap_in (show -9223372036854775808 ≤ x2 by omega) (by omega)]
  clear hHeld HT_ HW_ hx0 hx1 hx2
  obtain ⟨gf, hgf⟩ : ∃ gf, gf = w2.heap.size := ⟨_, rfl⟩
  obtain ⟨w4, hw4⟩ : ∃ w4, w4 = (w2.alloc (.cells #[.int .i64 x0, .int .i64 x1, .int .i64 x2, .slice none 0 0] 46)).drew := ⟨_, rfl⟩
  have HB4 : Az (Below w2.heap.size w2 w4) := ⟨by rw [hw4]; exact dZ (lZ (Below.refl _ _) _)⟩
  have BKf : Az (w4.heap[gf]? = some (.cells #[.int .i64 x0, .int .i64 x1, .int .i64 x2, .slice none 0 0] 46 (0, 0))) := ⟨by rw [hw4, hgf]; exact blk_at _⟩
  have HGf : Az (w2.heap.size ≤ gf) := ⟨by omega⟩
  rw [← hw4, ← hgf]
  clear hw4 hgf
  replace hx3 := cZ HB4.out hx3
  replace hx4 := cZ HB4.out hx4
  go_wp2_with fail
  refine start_ (n := 11) (S := fun w' => w'.cell? ⟨ab.block, ab.off + 3, none⟩ = some (.int .u8 x3) ∧ w'.cell? ⟨ab.block, ab.off + 4, none⟩ = some (.int .u8 x4)) (ds := []) #[false, false, false, false, false, false, false, false, false, false, false] (by kernel_rfl) rfl rfl ⟨hx3, hx4⟩ (fun hHeld => ?_)
  refine with_tabW TAB_46.tab4 TAB_46.bits4 (fun HT_ HW_ => ?_)
  refine pq 0 (some 35) HT_ rfl rfl (fun _ _ _ h => h) ?_
  refine pq 1 (some 36) HT_ rfl rfl (fun _ _ _ h => h) ?_
  refine pq 4 (some 39) HT_ rfl rfl (fun _ _ _ h => h) ?_
  refine pq 5 (some 40) HT_ rfl rfl (fun _ _ _ h => h) ?_
  refine pt 2 (some 37) (v := ?_) (a' := ?_) rfl rfl (take_ofW HT_.out HW_.out (by kernel_rfl)) (fun _ _ _ h => h) (Or.inl ⟨by rfl, ?_⟩) hHeld ?_ ?_
  rotate_left; (rintro w' ⟨s0, s1⟩; go_simp; with_reducible rfl); rotate_left; (simp only [Act.put, pn, i64_w, i32_w]; rfl)
  refine pq 3 (some 38) HT_ rfl rfl (fun _ _ _ h => h) ?_
  refine pt 6 (some 41) (v := ?_) (a' := ?_) rfl rfl (take_ofW HT_.out HW_.out (by kernel_rfl)) (fun _ _ _ h => h) (Or.inl ⟨by rfl, ?_⟩) hHeld ?_ ?_
  rotate_left; (rintro w' ⟨s0, s1⟩; go_simp; with_reducible rfl); rotate_left; (simp only [Act.put, pn, i64_w, i32_w]; rfl)
  refine pq 7 (some 42) HT_ rfl rfl (fun _ _ _ h => h) ?_
  refine pq 8 (some 43) HT_ rfl rfl (fun _ _ _ h => h) ?_
  refine pq 9 (some 44) HT_ rfl rfl (fun _ _ _ h => h) ?_
  refine pq 10 (some 5) HT_ rfl rfl (fun _ _ _ h => h) ?_
  refine done_ (done_of HT_.out (by kernel_rfl)) ?_
  rw [wrap_in (show -9223372036854775808 ≤ x3 by omega) (by omega), wrap_in (show -9223372036854775808 ≤ x4 by omega) (by omega), wrap_in (show -9223372036854775808 ≤ x4 * 256 by omega) (by omega), or_bytes64 x4 x3 hb4 hb3]
  clear hHeld HT_ HW_ hx3 hx4
  obtain ⟨m, hmv⟩ : ∃ m, m = x3 + x4 * 256 := ⟨_, rfl⟩
  rw [← hmv] at HNv ⊢
  clear hmv
  have HB5 : Az (Below w2.heap.size w2 w4.drew) := ⟨dZ HB4.out⟩
  have HA5 := Az.mk (HA2.out.below HB5.out)
  have HZ5 : Az (Below Wz.heap.size Wz w4.drew) := ⟨HZ2.out.trans (HB5.out.mono HZ2.out.size)⟩
  have HK5 : Az (KeepBut w w4.drew g none) := ⟨KeepBut.trans HK2.out (KeepBut.of_below HB5.out g none) (.inl rfl)⟩
  have BK5 : Az (w4.drew.heap[gf]? = some (.cells #[.int .i64 x0, .int .i64 x1, .int .i64 x2, .slice none 0 0] 46 (0, 0))) := ⟨BKf.out⟩
  have HNg : Az (gf ≠ g) := ⟨by have := HGf.out; have := HK2.out.1; have := HKp.out.1; have := HGp.out; omega⟩
  have HGw : Az (w.heap.size ≤ gf) := ⟨by have := HGf.out; have := HK2.out.1; omega⟩
  clear HB4 HB5 HA2 HZ2 HK2 BKf HGf
  obtain ⟨w5, hw5⟩ : ∃ w5, w5 = w4.drew := ⟨_, rfl⟩
  rw [← hw5] at HA5 HZ5 HK5 BK5 ⊢
  clear hw5
  have HHd := Az.mk (head_any g ⟨gf, 0, none⟩ 80 (rdR (some ad) bs.length cb ((nx + 5 : Nat) : Int)) G A hs.length c B locs x0 x1 x2 m nx Wz w5 HZ5.out HG.out HA5.out HL.out.1 HL.out.2 ((bZ BK5.out 0).trans rfl) ((bZ BK5.out 1).trans rfl) ((bZ BK5.out 2).trans rfl))
  go_wp2_with fail
  refine HHd.out.mono ?_
  rintro e w' ⟨he, hok, hzw, hkp⟩
  have HZ6 := Az.mk hzw
  have HK6 : Az (KeepBut w w' g none) := ⟨KeepBut.trans HK5.out hkp (.inl rfl)⟩
  have BK6 := Az.mk (hkp.blk BK5.out HNg.out (by simp))
  have HEv : Az (hvE bs nx locs = headE locs x0 x1 x2 m) := ⟨by unfold hvE; rw [HHv.out, HNv.out]⟩
  have HVv : Az ((hvOf bs nx).V = x2) := ⟨by rw [HHv.out]⟩
  have HKq : Az (KeepBut wp w' g none) := ⟨KeepBut.trans HKp.out HK6.out (.inl rfl)⟩
  obtain ⟨er, her⟩ : ∃ er, er = headE locs x0 x1 x2 m := ⟨_, rfl⟩
  rw [← her] at he hok HEv
  clear her hzw hkp HHd HZ5 HA5 BK5
  by_cases h1 : er = 0
  ·rw [if_pos h1] at he
   subst he
   have HA6 := Az.mk (hok h1)
   subst h1
   have HF6 : Az (kH.R 46 w' wp.heap.size (fun k => wp.heap.size ≤ k) (.slice A hs.length c) hs) := ⟨Kd.R_keep HF.out HK6.out (fun k hk => by have := HGp.out; omega)⟩
   clear hok HF HK5
   obtain ⟨w6, rfl⟩ : ∃ w6, w6 = w' := ⟨_, rfl⟩
   have hl : hs.length ≤ 9223372036854775807 := by have := HHn.out; omega
   obtain ⟨n, hn2⟩ : ∃ n, n = hs.length := ⟨_, rfl⟩
   have Hn2 := Az.mk hn2
   rw [← hn2] at HA6 HF6 HLt
   have hs0 : w6.cell? ⟨g, 1, none⟩ = some (.slice A n c) := (bZ HA6.out 1).trans rfl
   have hs1 : w6.cell? ⟨gf, 0, none⟩ = some (.int .i64 x0) := (bZ BK6.out 0).trans rfl
   have hs2 : w6.cell? ⟨gf, 1, none⟩ = some (.int .i64 x1) := (bZ BK6.out 1).trans rfl
   have hs3 : w6.cell? ⟨gf, 2, none⟩ = some (.int .i64 x2) := (bZ BK6.out 2).trans rfl
   have hs4 : w6.cell? ⟨gf, 3, none⟩ = some (.slice none 0 0) := (bZ BK6.out 3).trans rfl
   clear hn2 hn
   go_wp2_with fail
   refine start_ (n := 15) (S := fun w' => w'.cell? ⟨g, 1, none⟩ = some (.slice A n c) ∧ w'.cell? ⟨gf, 0, none⟩ = some (.int .i64 x0) ∧ w'.cell? ⟨gf, 1, none⟩ = some (.int .i64 x1) ∧ w'.cell? ⟨gf, 2, none⟩ = some (.int .i64 x2) ∧ w'.cell? ⟨gf, 3, none⟩ = some (.slice none 0 0)) (ds := [14]) #[false, false, false, false, false, false, false, false, false, false, false, false, false, false, false] (by kernel_rfl) rfl rfl ⟨hs0, hs1, hs2, hs3, hs4⟩ (fun hHeld => ?_)
   refine with_tabW TAB_46.tab6 TAB_46.bits6 (fun HT_ HW_ => ?_)
   refine pq 0 (some 50) HT_ rfl rfl (fun _ _ _ h => h) ?_
   refine pq 1 (some 51) HT_ rfl rfl (fun _ _ _ h => h) ?_
   refine pq 2 (some 52) HT_ rfl rfl (fun _ _ _ h => h) ?_
   refine pq 3 (some 53) HT_ rfl rfl (fun _ _ _ h => h) ?_
   refine pq 4 (some 54) HT_ rfl rfl (fun _ _ _ h => h) ?_
   refine pq 5 (some 55) HT_ rfl rfl (fun _ _ _ h => h) ?_
   refine pt 6 (some 56) (v := ?_) (a' := ?_) rfl rfl (take_ofW HT_.out HW_.out (by kernel_rfl)) (fun _ _ _ h => h) (Or.inl ⟨by rfl, ?_⟩) hHeld ?_ ?_
   rotate_left; (rintro w' ⟨s0, s1, s2, s3, s4⟩; go_simp; with_reducible rfl); rotate_left; (simp only [Act.put, pn, i64_w, i32_w]; rfl)
   refine pt 7 (some 57) (v := ?_) (a' := ?_) rfl rfl (take_ofW HT_.out HW_.out (by kernel_rfl)) (fun _ _ _ h => h) (Or.inl ⟨by rfl, ?_⟩) hHeld ?_ ?_
   rotate_left; (rintro w' ⟨s0, s1, s2, s3, s4⟩; go_simp; with_reducible rfl); rotate_left; (simp only [Act.put, pn, i64_w, i32_w]; rfl)
   refine one_ (i := 8) (N := some 58) #[true, true, true, true, true, true, true, true, true, false, false, false, false, false, false] rfl rfl (one_of HT_.out (by kernel_rfl)) (by decide) (fun K hK => ?_)
   refine value_ (w1 := ?_) (v := ?_) (by rfl) rfl ?_ ?_
   rotate_left 2
   ·go_simp
    constructor
    ·rfl
    ·rfl
   show K _ (World.alloc w6.drew (Obj.cells #[.int .i64 x0, .int .i64 x1, .int .i64 x2, .slice none 0 0] 46))
   refine hK.out _ _ ⟨cZ (lZ (Below.refl _ _) _) hs0, cZ (lZ (Below.refl _ _) _) hs1, cZ (lZ (Below.refl _ _) _) hs2, cZ (lZ (Below.refl _ _) _) hs3, cZ (lZ (Below.refl _ _) _) hs4⟩ (fun hHeld => ?_)
   clear hK K
   refine norm_ (a' := ?_) ?_ ?_
   rotate_left
   ·show Act.put _ (some 58) _ = _
    simp only [Act.put, pn, i64_w, i32_w]
    rfl
   refine one_ (i := 9) (N := some 59) #[true, true, true, true, true, true, true, true, true, true, false, false, false, false, false] rfl rfl (one_of HT_.out (by kernel_rfl)) (by decide) (fun K hK => ?_)
   refine Kd.R_append_step kH (w0 := w6.drew) wp.heap.size (by rfl) (.tmp 56) (.tmp 58) 22 46 (.agg #[.int .i64 0, .int .i64 0, .int .i64 0, .slice none 0 0]) 48 (by rfl) Tryd.underlying22 info46 (by rfl) (by decide) (by omega) (.slice A n c) hs ⟨x0, x1, x2, .slice none 0 0, rfl⟩ [.int .i64 x0, .int .i64 x1, .int .i64 x2, .slice none 0 0] (fun k => wp.heap.size ≤ k) (fun _ => False) (by rfl) (by rfl) ?aP (fun _ hk => hk.elim) ?aF ?aO ?aB ?aS ?aL ?_
   case aP => exact rfl
   case aF => exact fun k hk => Nat.le_trans HKq.out.1 hk
   case aO => exact Kd.R_drew HF6.out
   case aB => exact Below.refl _ _
   case aS => exact HKq.out.1
   case aL => have := HHn.out; omega
   intro v1 w7 ho hb hgr hat
   have F0 := Az.mk (blk_grown (show w6.drew.heap[g]? = _ from HA6.out) hgr (Kd.R_ne (Kd.R_drew HF6.out) (show w6.drew.heap[g]? = _ from HA6.out) (by decide)))
   have FT := Az.mk (KeepT.grown (ts := [46]) (g := g) (Kd.R_drew HF6.out) (by simp) hgr)
   have FG := Az.mk (blk_grown (show w6.drew.heap[gf]? = _ from BK6.out) hgr (fun e => by have := HLt.out gf e.symm; have := HGw.out; omega))
   obtain ⟨l2, hl2⟩ : ∃ l2, l2 = hs ++ [(⟨x0, x1, x2, .slice none 0 0, rfl⟩ : HV)] := ⟨_, rfl⟩
   rw [← hl2] at ho
   have HL2 := Az.mk hl2
   clear hl2
   obtain ⟨A6, c6, rfl⟩ := Kd.R_slice ho
   have FR := Az.mk ho
   have FB := Az.mk hb
   clear ho hb hgr hat
   refine hK.out _ _ ⟨(bZ F0.out 1).trans rfl, (bZ FG.out 0).trans rfl, (bZ FG.out 1).trans rfl, (bZ FG.out 2).trans rfl, (bZ FG.out 3).trans rfl⟩ (fun hHeld => ?_)
   clear hK K
   refine norm_ (a' := ?_) ?_ ?_
   rotate_left
   ·show Act.put _ (some 59) _ = _
    simp only [Act.put, pn, i64_w, i32_w]
    rfl
   refine pq 10 (some 60) HT_ rfl rfl (fun _ _ _ h => h) ?_
   refine pq 11 (some 61) HT_ rfl rfl (fun _ _ _ h => h) ?_
   refine pq 12 (some 62) HT_ rfl rfl (fun _ _ _ h => h) ?_
   refine pq 13 (some 63) HT_ rfl rfl (fun _ _ _ h => h) ?_
   refine last_ (i := 14) (N := none) #[true, true, true, true, true, true, true, true, true, true, true, true, true, true, true] rfl rfl (one_of HT_.out (by kernel_rfl)) (by decide) (fun K hK => ?_)
   have hcz : w7.cell? ⟨g, 1, none⟩ = some (.slice A n c) := (bZ F0.out 1).trans rfl
   have hfz := fZ F0.out 1
   refine skip_ (w1 := ?_) (by rfl) rfl ?_ ?_
   rotate_left
   ·go_simp
    rfl
   clear hcz hfz
   refine hK.out _ _ ?_
   clear hK K
   refine done_ (done_of HT_.out (by kernel_rfl)) ?_
   clear hHeld HT_ HW_ hs0 hs1 hs2 hs3 hs4
   have HWp : Az (Wz.heap.size ≤ wp.heap.size) := ⟨by have := HG.out; have := HGp.out; omega⟩
   have HA8 : Az (AskW (w7.setCell ⟨g, 1, none⟩ (.slice A6 l2.length c6)) g 80 (rdR (some ad) bs.length cb ((nx + 5 : Nat) : Int)) G A6 l2.length c6 B (locs + x2) nx) := ⟨AskW.set1 F0.out⟩
   have HR8 : Az (kH.R 46 (w7.setCell ⟨g, 1, none⟩ (.slice A6 l2.length c6)) wp.heap.size (fun k => wp.heap.size ≤ k) (.slice A6 l2.length c6) l2) := ⟨Kd.R_set FR.out F0.out (by decide) 1 _⟩
   have HZ8 : Az (Below Wz.heap.size Wz (w7.setCell ⟨g, 1, none⟩ (.slice A6 l2.length c6))) := ⟨sZ ((HZ6.out.drew).trans (FB.out.mono HWp.out)) HG.out⟩
   have HK8 : Az (KeepBut wp (w7.setCell ⟨g, 1, none⟩ (.slice A6 l2.length c6)) g none) := ⟨KeepBut.set_ ⟨Nat.le_trans HKq.out.1 FB.out.size, fun i hi hg hr => (FB.out.block i hi).trans (HKq.out.2 i hi hg hr)⟩ 1 _⟩
   have HT8 : Az (KeepT [46] g w (w7.setCell ⟨g, 1, none⟩ (.slice A6 l2.length c6))) := ⟨((KeepT.of_keep HK6.out).trans (show KeepT [46] g w6 w7 from FT.out)).trans (KeepT.of_keep ((KeepBut.refl w7 g none).set_ 1 _))⟩
   obtain ⟨w8, hw8⟩ : ∃ w8, w8 = w7.setCell ⟨g, 1, none⟩ (.slice A6 l2.length c6) := ⟨_, rfl⟩
   rw [← hw8] at HA8 HR8 HZ8 HK8 HT8 ⊢
   clear hw8 F0 FT FG FR FB
   have HLn : Az (l2.length = hs.length + 1) := ⟨by rw [HL2.out]; simp⟩
   go_wp2_with fail
   go_ret
   refine ⟨by rw [if_pos H0.out, if_pos HEv.out, HNv.out]; rfl, fun _ _ => ⟨A6, c6, ?_, ?_⟩, HZ8.out, HK8.out, HT8.out⟩
   ·rw [HVv.out, ← HLn.out]; exact HA8.out
   ·rw [← HLn.out, HHv.out, ← HL2.out]; exact HR8.out
  ·rw [if_neg h1] at he
   subst he
   clear hok
   go_wp2_with fail
   exact ⟨rfl, by rw [if_pos H0.out, HEv.out, if_neg h1], fun _ h => absurd (HEv.out.symm.trans h) h1, HZ6.out, HKq.out, KeepT.of_keep HK6.out⟩
 ·rw [if_neg h0]
  go_wp2_with fail
  exact ⟨rfl, by rw [if_neg h0], fun h => absurd h h0, HZ1.out, KeepBut.trans HKp.out HK1.out (.inl rfl), KeepT.of_keep HK1.out⟩
end Go.Proofs.YteonppgdmhakoaaDoor.PC
namespace Go.Proofs.YteonppgdmhakoaaDoor.PC
open Go.RowKit Go.Proofs.YteonppgdmhakoaaDoorW.PrintWords Go.Proofs.YteonppgdmhakoaaDoorW.PrintLast Go.Proofs.YteonppgdmhakoaaDoorW.PrintMore
set_option linter.unusedVariables false
set_option linter.unusedSimpArgs false
def TAB_99.T1 : Bool × List (List Nat × List Nat) := (true, [([], []), ([], []), ([1], [1]), ([2], [2]), ([], []), ([], []), ([], []), ([0, 3, 4, 5, 6], [0, 3, 4, 5, 6])])
def TAB_99.B1 : List Nat := [0, 0, 2, 6, 0, 0, 0, 127]
theorem TAB_99.tab1 : rtab .any (opsOf Tryd.f99 1) = TAB_99.T1 := by kernel_rfl
theorem TAB_99.bits1 : waitsOk TAB_99.T1.2 TAB_99.B1 = true := by kernel_rfl
def TAB_101.T1 : Bool × List (List Nat × List Nat) := (true, [([], []), ([], []), ([1], [1]), ([2], [2]), ([], []), ([], []), ([], []), ([0, 3, 4, 5, 6], [0, 3, 4, 5, 6])])
def TAB_101.B1 : List Nat := [0, 0, 2, 6, 0, 0, 0, 127]
theorem TAB_101.tab1 : rtab .any (opsOf Tryd.f101 1) = TAB_101.T1 := by kernel_rfl
theorem TAB_101.bits1 : waitsOk TAB_101.T1.2 TAB_101.B1 = true := by kernel_rfl
theorem KeepBut.cell {w w' : World} {g : Nat} {a : Addr} {v : Value} (h : KeepBut w w' g none) (hc : w.cell? a = some v) (hg : a.block ≠ g) : w'.cell? a = some v := by
 have hlt := World.block_lt_of_cell? w a hc
 have he := h.2 a.block hlt hg (by simp)
 rw [← hc]
 unfold World.cell?
 rw [he]
theorem blk_ne_ty {w : World} {a b : Nat} {cs ds : Array Value} {t u : TypeId} (ha : w.heap[a]? = some (.cells cs t (0, 0))) (hb : w.heap[b]? = some (.cells ds u (0, 0))) (h : t ≠ u) : a ≠ b := fun e => by
 subst e
 rw [ha] at hb
 injection hb with hb
 injection hb with _ hb
 exact h hb
theorem PartIs.keep {w w' : World} {g : Nat} {ds : Array Value} (hk : KeepBut w w' g none) (hg : w.heap[g]? = some (.cells ds 80 (0, 0))) : ∀ {k : PK} {cs : List Value}, PartIs w k cs → PartIs w' k cs := by
 have go : ∀ {b : Nat} {cs : Array Value} {t : TypeId}, t ≠ 80 → w.heap[b]? = some (.cells cs t (0, 0)) → w'.heap[b]? = some (.cells cs t (0, 0)) := fun ht hb => hk.blk hb (blk_ne_ty hb hg ht) (by simp)
 have hv : ∀ {m : Int} {f : Nat} {cs : List Value}, VarIs w m f cs → VarIs w' m f cs := fun h => by
  obtain ⟨b1, b2, h0, h1, h2⟩ := h
  exact ⟨b1, b2, h0, go (by decide) h1, go (by decide) h2⟩
 have hn : ∀ {lo err : Int} {f : Nat} {cs : List Value}, NumIs w lo err f cs → NumIs w' lo err f cs := fun h => by
  obtain ⟨b1, b3, b4, b5, h0, h1, h3, h4, h5⟩ := h
  exact ⟨b1, b3, b4, b5, h0, go (by decide) h1, go (by decide) h3, go (by decide) h4, go (by decide) h5⟩
 have hl : ∀ {m : Int} {f g : Nat} {cs : List Value}, ListIs w m f g cs → ListIs w' m f g cs := fun h => by
  obtain ⟨b4, b5, h0, h4, h5⟩ := h
  exact ⟨b4, b5, h0, go (by decide) h4, go (by decide) h5⟩
 intro k cs h
 cases k
 case int =>
  obtain ⟨b1, h0, h1⟩ := h
  exact ⟨b1, h0, go (by decide) h1⟩
 case R => exact hv h
 case S => exact hv h
 case T => exact hv h
 case args => exact hl h
 case rets => exact hl h
 case vals => exact hl h
 all_goals exact hn h
abbrev kI : Kd Int := Kd.int .i64
def XBlk (w : World) (gx : Nat) (x : S50) (v5 v6 : Value) : Prop := w.heap[gx]? = some (.cells #[.int .i64 x.f0, .int .i64 x.f1, .int .i64 x.f2, .int .i64 x.f3, .int .i64 x.f4, v5, v6] 50 (0, 0))
def XAt (wI w : World) (gx : Nat) (x : S50) : Prop := ∃ v5 v6, XBlk w gx x v5 v6 ∧ kI.R 3 w wI.heap.size (fun k => wI.heap.size ≤ k ∧ some k ≠ v6.ownBlock) v5 x.f5 ∧ kI.R 3 w wI.heap.size (fun k => wI.heap.size ≤ k ∧ some k ≠ v5.ownBlock) v6 x.f6
def setF (x : S50) : Nat → Int → S50
 | 1, v => { x with f1 := v }
 | 2, v => { x with f2 := v }
 | 3, v => { x with f3 := v }
 | _, v => { x with f4 := v }
theorem XBlk.set {w : World} {gx : Nat} {x : S50} {v5 v6 : Value} (h : XBlk w gx x v5 v6) (i : Nat) (hi : i = 1 ∨ i = 2 ∨ i = 3 ∨ i = 4) (v : Int) : XBlk (w.setCell ⟨gx, i, none⟩ (.int .i64 v)) gx (setF x i v) v5 v6 := by
 rcases hi with rfl | rfl | rfl | rfl <;> exact (blk_set h _ _).trans rfl
theorem setF_5 (x : S50) (i : Nat) (v : Int) : (setF x i v).f5 = x.f5 := by unfold setF; split <;> rfl
theorem setF_6 (x : S50) (i : Nat) (v : Int) : (setF x i v).f6 = x.f6 := by unfold setF; split <;> rfl
theorem setF_0 (x : S50) (i : Nat) (v : Int) : (setF x i v).f0 = x.f0 := by unfold setF; split <;> rfl
theorem XAt.set {wI w : World} {gx : Nat} {x : S50} (h : XAt wI w gx x) (i : Nat) (hi : i = 1 ∨ i = 2 ∨ i = 3 ∨ i = 4) (v : Int) : XAt wI (w.setCell ⟨gx, i, none⟩ (.int .i64 v)) gx (setF x i v) := by
 obtain ⟨v5, v6, hb, h5, h6⟩ := h
 exact ⟨v5, v6, hb.set i hi v, by rw [setF_5]; exact Kd.R_set h5 hb (by decide) i _, by rw [setF_6]; exact Kd.R_set h6 hb (by decide) i _⟩
theorem XAt.below {wI w w' : World} {gx : Nat} {x : S50} (h : XAt wI w gx x) (hb : Below w.heap.size w w') : XAt wI w' gx x := by
 obtain ⟨v5, v6, hx, h5, h6⟩ := h
 exact ⟨v5, v6, kZ hx hb, Kd.R_below h5 hb, Kd.R_below h6 hb⟩
theorem XAt.keep {wI w w' : World} {g gx : Nat} {x : S50} (h : XAt wI w gx x) (hk : KeepBut w w' g none) (hg : g < wI.heap.size) (hgx : wI.heap.size ≤ gx) : XAt wI w' gx x := by
 obtain ⟨v5, v6, hx, h5, h6⟩ := h
 exact ⟨v5, v6, hk.blk hx (by omega) (by simp), Kd.R_keep h5 hk (fun k hk => by have := hk.1; omega), Kd.R_keep h6 hk (fun k hk => by have := hk.1; omega)⟩
theorem XAt.ins {wI w : World} {gx : Nat} {x : S50} (h : XAt wI w gx x) : ∃ A5 c5 A6 c6, InsW w ⟨gx, 0, none⟩ x A5 c5 A6 c6 ∧ kI.C w A5 x.f5.length x.f5 ∧ kI.C w A6 x.f6.length x.f6 := by
 obtain ⟨v5, v6, hx, h5, h6⟩ := h
 obtain ⟨A5, c5, rfl, _, g5⟩ := Kd.R_reads h5
 obtain ⟨A6, c6, rfl, _, g6⟩ := Kd.R_reads h6
 exact ⟨A5, c5, A6, c6, ⟨(bZ hx 0).trans rfl, (bZ hx 1).trans rfl, (bZ hx 2).trans rfl, (bZ hx 3).trans rfl, (bZ hx 4).trans rfl, (bZ hx 5).trans rfl, (bZ hx 6).trans rfl⟩, g5, g6⟩
def TakePost (Wz wI : World) (g gx : Nat) (Ab : Option Addr) (cb : Nat) (bs : List Int) (G : Int) (A : Option Addr) (n c B : Nat) (locs : Int) (r : Except (Int × Int) (S50 × Nat)) (e : Ending) (w' : World) : Prop :=
 Below Wz.heap.size Wz w' ∧ KeepBut wI w' g none ∧ match r with
 | .error er => e = .panicked [{ v := stopV er.1 er.2, recovered := false }]
 | .ok s => e = .returned (.tuple #[]) ∧ (∃ at_, AskW w' g 80 (rdR Ab bs.length cb (s.2 : Int)) G A n c B locs at_) ∧ XAt wI w' gx s.1
theorem num_one (bs : List Int) (nx : Nat) (hby : ∀ x ∈ bs, 0 ≤ x ∧ x ≤ 255) : wrap64 (upN bs nx 1 1) = bs.getD nx 0 := by
 have h := upN_small bs nx 1 hby 1 (by omega)
 rw [wrap_in (by omega) (by omega)]
 show 0 * 256 + bs.getD (nx + (1 - 1 - 0)) 0 = _
 rw [Nat.sub_self, Nat.add_zero]
 omega
def takeF (bs : List Int) (nx k : Nat) (x' : S50) (er : Int) : Except (Int × Int) (S50 × Nat) :=
 if nx + k ≤ bs.length then (if er = 0 then .ok (x', nx + k) else .error (er, nx)) else .error (11, bs.length)
set_option maxRecDepth 100000 in
set_option maxHeartbeats 8000000 in
theorem take_var (f i : Nat) (hof : ∀ (q : Addr) (w : World), Calls Tryd.prog f #[.pointer (some q)] w fun e w' => e = .returned (.pointer (some ⟨q.block, q.off + i, none⟩)) ∧ w = w') (hf : f = 69 ∧ i = 1 ∨ f = 70 ∧ i = 2 ∨ f = 71 ∧ i = 3)
  (g gx b1 b2 fn : Nat) (cap : Array Value) (hen : Enters fn) (qf : Addr) (m er : Int) (G : Int) (A : Option Addr) (n c B : Nat) (locs at_ : Int) (Ab : Option Addr) (cb : Nat) (bs : List Int) (nx : Nat) (x : S50) (Wz wI w : World)
  (hz : Below Wz.heap.size Wz w) (hg : Wz.heap.size ≤ g) (hgI : g < wI.heap.size) (hgx : wI.heap.size ≤ gx) (hkp : KeepBut wI w g none) (hA : AskW w g 80 (rdR Ab bs.length cb nx) G A n c B locs at_) (hB : kB.C Wz Ab bs.length bs) (hnx : nx ≤ bs.length) (hby : ∀ x ∈ bs, 0 ≤ x ∧ x ≤ 255) (hX : XAt wI w gx x)
  (hb1 : w.heap[b1]? = some (.cells #[.func (Fn.func f) #[] #[]] 108 (0, 0))) (hb2 : w.heap[b2]? = some (.cells #[.func (Fn.func fn) #[] cap] 65 (0, 0)))
  (hask : nx + 1 ≤ bs.length → ∀ w' : World, AskW w' g 80 (rdR Ab bs.length cb ((nx + 1 : Nat) : Int)) G A n c B locs nx → XAt wI w' gx (setF x i (bs.getD nx 0)) → KeepBut wI w' g none → Calls Tryd.prog fn (#[.pointer (some ⟨g, 0, none⟩), .pointer (some qf), .pointer (some ⟨gx, 0, none⟩), .int .i64 m] ++ cap) w' fun e w'' => AskPost w' er nx e w'') :
  Calls Tryd.prog 99 #[.pointer (some ⟨g, 0, none⟩), .pointer (some qf), .pointer (some ⟨gx, 0, none⟩), .int .i64 m, .pointer (some ⟨b1, 0, none⟩), .pointer (some ⟨b2, 0, none⟩)] w fun e w' => TakePost Wz wI g gx Ab cb bs G A n c B locs (takeF bs nx 1 (setF x i (bs.getD nx 0)) er) e w' := by
 have HN := Az.mk (number_rd g 1 (by omega) G A n c B locs at_ Ab cb bs nx Wz w hz hg hA hB hnx hby)
 have HO : Az (∀ w : World, Calls Tryd.prog f #[.pointer (some ⟨gx, 0, none⟩)] w fun e w' => e = .returned (.pointer (some ⟨gx, i, none⟩)) ∧ w = w') := ⟨fun w => by have h := hof ⟨gx, 0, none⟩ w; rw [show (⟨gx, 0, none⟩ : Addr).off + i = i from Nat.zero_add i] at h; exact h⟩
 have hen3 : ∀ (args : Array Value) (w : World), (callFunc f args).run Tryd.prog w = .ok (.enter f args) w := by rcases hf with ⟨rfl, rfl⟩ | ⟨rfl, rfl⟩ | ⟨rfl, rfl⟩ <;> exact fun args w => enters_ (by first | exact Tryd.func69 | exact Tryd.func70 | exact Tryd.func71) (by kernel_rfl) (by kernel_rfl) args w
 have HZ := Az.mk hz
 have HG := Az.mk hg
 have HGi := Az.mk hgI
 have HGx := Az.mk hgx
 have HKp := Az.mk hkp
 have HX := Az.mk hX
 have HAsk := Az.mk hask
 have HNo := Az.mk (num_one bs nx hby)
 have hen' : ∀ (args : Array Value) (w : World), (callFunc fn args).run Tryd.prog w = .ok (.enter fn args) w := hen
 have hc1 : w.cell? ⟨b1, 0, none⟩ = some (.func (Fn.func f) #[] #[]) := (bZ hb1 0).trans rfl
 have HB2 := Az.mk hb2
 have Hb2g : Az (b2 ≠ g) := ⟨blk_ne_ty hb2 hA (by decide)⟩
 have Hb2x : Az (b2 ≠ gx) := ⟨by obtain ⟨_, _, hx, _⟩ := hX; exact blk_ne_ty hb2 hx (by decide)⟩
 have HI : Az (i = 1 ∨ i = 2 ∨ i = 3 ∨ i = 4) := ⟨by omega⟩
 clear hof hz hg hgI hgx hkp hA hB hX hask hb1 hb2 hen hnx hby
 have HI3 : Az (i = 1 ∨ i = 2 ∨ i = 3) := ⟨by omega⟩
 clear hf
 go_enter Tryd.func99, Tryd.ntmps99
 go_wp2_with fail
 refine (HO.out _).mono ?_
 rintro e w' ⟨rfl, rfl⟩
 go_wp2_with fail
 refine HN.out.mono ?_
 rintro e w' ⟨rfl, hA1, hZ1, hK1⟩
 have HZ1 := Az.mk hZ1
 have HK1 := Az.mk hK1
 have HX1 := Az.mk (HX.out.keep hK1 HGi.out HGx.out)
 have HKp1 : Az (KeepBut wI w' g none) := ⟨KeepBut.trans HKp.out hK1 (.inl rfl)⟩
 have B21 := Az.mk (hK1.blk HB2.out Hb2g.out (by simp))
 clear hZ1 hK1 HN hc1 HX HK1
 obtain ⟨w1, rfl⟩ : ∃ w1, w1 = w' := ⟨_, rfl⟩
 by_cases h0 : nx + 1 ≤ bs.length
 ·have HA1 := Az.mk (hA1 h0)
  have H0 := Az.mk h0
  rw [if_pos h0, HNo.out]
  have HAsk := Az.mk (HAsk.out h0)
  clear hA1 h0
  obtain ⟨v, hv⟩ : ∃ v, v = bs.getD nx 0 := ⟨_, rfl⟩
  have HV := Az.mk hv
  rw [← hv] at HAsk ⊢
  clear hv
  obtain ⟨y, hbx, hfx⟩ : ∃ y, w1.cell? ⟨gx, i, none⟩ = some (.int .i64 y) ∧ w1.frozen? ⟨gx, i, none⟩ = false := by obtain ⟨v5, v6, hxb, _⟩ := HX1.out; rcases HI3.out with rfl | rfl | rfl <;> exact ⟨_, (bZ hxb _).trans rfl, fZ hxb _⟩
  have HNg : Az (g ≠ gx) := ⟨by have := HGi.out; have := HGx.out; omega⟩
  go_wp2_with fail
  have HX2 := Az.mk (HX1.out.set i HI.out v)
  have HA2 : Az (AskW (w1.setCell ⟨gx, i, none⟩ (.int .i64 v)) g 80 (rdR Ab bs.length cb ((nx + 1 : Nat) : Int)) G A n c B locs nx) := ⟨(Below.heap_setCell w1 ⟨gx, i, none⟩ (.int .i64 v) g HNg.out).trans HA1.out⟩
  have HZ2 : Az (Below Wz.heap.size Wz (w1.setCell ⟨gx, i, none⟩ (.int .i64 v))) := ⟨sZ HZ1.out (by have := HG.out; have := HGi.out; have := HGx.out; omega)⟩
  have HK2 : Az (KeepBut wI (w1.setCell ⟨gx, i, none⟩ (.int .i64 v)) g none) := ⟨⟨by simpa [World.setCell] using HKp1.out.1, fun j hj hg hr => (Below.heap_setCell w1 ⟨gx, i, none⟩ (.int .i64 v) j (fun e => by have := HGx.out; have e2 : j = gx := e; omega)).trans (HKp1.out.2 j hj hg hr)⟩⟩
  have B22 : Az ((w1.setCell ⟨gx, i, none⟩ (.int .i64 v)).heap[b2]? = some (.cells #[.func (Fn.func fn) #[] cap] 65 (0, 0))) := ⟨(Below.heap_setCell w1 ⟨gx, i, none⟩ (.int .i64 v) b2 Hb2x.out).trans B21.out⟩
  obtain ⟨w2, hw2⟩ : ∃ w2, w2 = w1.setCell ⟨gx, i, none⟩ (.int .i64 v) := ⟨_, rfl⟩
  rw [← hw2] at HX2 HA2 HZ2 HK2 B22 ⊢
  clear hw2 HX1 HA1 HZ1 HKp1 B21 hbx hfx
  have hb2 : w2.cell? ⟨b2, 0, none⟩ = some (.func (Fn.func fn) #[] cap) := (bZ B22.out 0).trans rfl
  have HC := Az.mk (HAsk.out w2.drew HA2.out (HX2.out.below (below_drew (Below.refl _ _))) HK2.out)
  by_cases h1 : er = 0
  ·have HC2 : Az (Calls Tryd.prog fn (#[.pointer (some ⟨g, 0, none⟩), .pointer (some qf), .pointer (some ⟨gx, 0, none⟩), .int .i64 m] ++ cap) w2.drew fun e w'' => e = .returned (.tuple #[]) ∧ Below w2.drew.heap.size w2.drew w'') := ⟨HC.out.mono fun e w'' h => ⟨by rw [h.1, if_pos h1], h.2⟩⟩
   refine start_ (n := 8) (S := fun w' => w'.cell? ⟨b2, 0, none⟩ = some (.func (Fn.func fn) #[] cap)) (ds := []) #[false, false, false, false, false, false, false, false] (by kernel_rfl) rfl rfl (hb2) (fun hHeld => ?_)
   refine with_tabW TAB_99.tab1 TAB_99.bits1 (fun HT_ HW_ => ?_)
   refine pq 1 (some 17) HT_ rfl rfl (fun _ _ _ h => h) ?_
   refine pq 2 (some 18) HT_ rfl rfl (fun _ _ _ h => h) ?_
   refine pq 3 (some 19) HT_ rfl rfl (fun _ _ _ h => h) ?_
   refine pq 4 (some 20) HT_ rfl rfl (fun _ _ _ h => h) ?_
   refine pq 5 (some 21) HT_ rfl rfl (fun _ _ _ h => h) ?_
   refine pq 6 (some 22) HT_ rfl rfl (fun _ _ _ h => h) ?_
   refine pt 0 (some 16) (v := ?_) (a' := ?_) rfl rfl (take_ofW HT_.out HW_.out (by kernel_rfl)) (fun _ _ _ h => h) (Or.inl ⟨by rfl, ?_⟩) hHeld ?_ ?_
   rotate_left; (intro w' s0; go_simp; with_reducible rfl); rotate_left; (simp only [Act.put, pn, i64_w, i32_w]; rfl)
   refine one_ (i := 7) (N := some 23) #[true, true, true, true, true, true, true, true] rfl rfl (one_of HT_.out (by kernel_rfl)) (by decide) (fun K hK => ?_)
   refine goesV_ hen' (#[.pointer (some ⟨g, 0, none⟩), .pointer (some qf), .pointer (some ⟨gx, 0, none⟩), .int .i64 m] ++ cap) (by rfl) rfl rfl rfl (by simp only [List.map_toArray, List.map_cons, List.map_nil]; rfl) ?_
   with_reducible refine HC2.out.mono ?_
   rintro e_ wm ⟨rfl, hb⟩
   refine ⟨_, rfl, ?_⟩
   have HBm := Az.mk hb
   clear hb
   refine hK.out _ _ (cZ HBm.out hb2) (fun hHeld => ?_)
   clear hK K
   refine norm_ (a' := ?_) ?_ ?_
   rotate_left
   ·show Act.put _ (some 23) _ = _
    simp only [Act.put, pn, i64_w, i32_w]
    rfl
   refine done_ (done_of HT_.out (by kernel_rfl)) ?_
   clear hHeld HT_ HW_
   go_end0
   refine ⟨HZ2.out.drew.trans (HBm.out.mono HZ2.out.size), KeepBut.trans HK2.out (KeepBut.of_below (show Below w2.heap.size w2 wm from (below_drew (Below.refl _ _)).trans HBm.out) g none) (.inl rfl), ?_⟩
   unfold takeF
   rw [if_pos H0.out, if_pos h1, ← HV.out]
   exact ⟨rfl, ⟨nx, AskW.below (w := w2.drew) HA2.out HBm.out⟩, XAt.below (w := w2.drew) (HX2.out.below (below_drew (Below.refl _ _))) HBm.out⟩
  ·have HC2 : Az (Calls Tryd.prog fn (#[.pointer (some ⟨g, 0, none⟩), .pointer (some qf), .pointer (some ⟨gx, 0, none⟩), .int .i64 m] ++ cap) w2.drew fun e w'' => e = .panicked [{ v := stopV er nx, recovered := false }] ∧ Below w2.drew.heap.size w2.drew w'') := ⟨HC.out.mono fun e w'' h => ⟨by rw [h.1, if_neg h1], h.2⟩⟩
   refine start_ (n := 8) (S := fun w' => w'.cell? ⟨b2, 0, none⟩ = some (.func (Fn.func fn) #[] cap)) (ds := []) #[false, false, false, false, false, false, false, false] (by kernel_rfl) rfl rfl (hb2) (fun hHeld => ?_)
   refine with_tabW TAB_99.tab1 TAB_99.bits1 (fun HT_ HW_ => ?_)
   refine pq 1 (some 17) HT_ rfl rfl (fun _ _ _ h => h) ?_
   refine pq 2 (some 18) HT_ rfl rfl (fun _ _ _ h => h) ?_
   refine pq 3 (some 19) HT_ rfl rfl (fun _ _ _ h => h) ?_
   refine pq 4 (some 20) HT_ rfl rfl (fun _ _ _ h => h) ?_
   refine pq 5 (some 21) HT_ rfl rfl (fun _ _ _ h => h) ?_
   refine pq 6 (some 22) HT_ rfl rfl (fun _ _ _ h => h) ?_
   refine pt 0 (some 16) (v := ?_) (a' := ?_) rfl rfl (take_ofW HT_.out HW_.out (by kernel_rfl)) (fun _ _ _ h => h) (Or.inl ⟨by rfl, ?_⟩) hHeld ?_ ?_
   rotate_left; (intro w' s0; go_simp; with_reducible rfl); rotate_left; (simp only [Act.put, pn, i64_w, i32_w]; rfl)
   refine one_ (i := 7) (N := some 23) #[true, true, true, true, true, true, true, true] rfl rfl (one_of HT_.out (by kernel_rfl)) (by decide) (fun K hK => ?_)
   refine goesVP_ hen' (#[.pointer (some ⟨g, 0, none⟩), .pointer (some qf), .pointer (some ⟨gx, 0, none⟩), .int .i64 m] ++ cap) (by rfl) rfl rfl rfl (by simp only [List.map_toArray, List.map_cons, List.map_nil]; rfl) ?_
   with_reducible refine HC2.out.mono ?_
   rintro e_ wm ⟨rfl, hb⟩
   refine ⟨_, rfl, ?_⟩
   refine ⟨rfl, HZ2.out.drew.trans (hb.mono HZ2.out.size), KeepBut.trans HK2.out (KeepBut.of_below (show Below w2.heap.size w2 wm from (below_drew (Below.refl _ _)).trans hb) g none) (.inl rfl), ?_⟩
   unfold takeF
   rw [if_pos H0.out, if_neg h1]
 ·rw [if_neg h0]
  go_wp2_with fail
  refine ⟨rfl, HZ1.out, HKp1.out, ?_⟩
  unfold takeF
  rw [if_neg h0]
theorem num_k {op j : Nat} {pk : PK} (h : (partsOf op)[j]? = some pk) (hn : numK pk = true) : 1 ≤ tabL.getD op 0 := by
 have h15 := num_op h hn
 unfold partsOf at h
 rcases op with _ | _ | _ | _ | _ | _ | _ | _ | _ | _ | _ | _ | _ | _ | _ | op <;> first | omega | decide | (rcases j with _ | _ | _ | j <;> simp at h <;> subst h <;> cases hn)
set_option maxRecDepth 100000 in
set_option maxHeartbeats 8000000 in
theorem take_num (op k : Nat) (hop : op < 15) (hk : (k : Int) = tabL.getD op 0) (hk1 : 1 ≤ k)
  (g gx b2 fn : Nat) (cap : Array Value) (hen : Enters fn) (qf : Addr) (m er : Int) (G : Int) (A : Option Addr) (n c B : Nat) (locs at_ : Int) (Ab : Option Addr) (cb : Nat) (bs : List Int) (nx : Nat) (x : S50) (Wz wI w : World)
  (hz : Below Wz.heap.size Wz w) (hg : Wz.heap.size ≤ g) (hgI : g < wI.heap.size) (hgx : wI.heap.size ≤ gx) (hkp : KeepBut wI w g none) (hA : AskW w g 80 (rdR Ab bs.length cb nx) G A n c B locs at_) (hB : kB.C Wz Ab bs.length bs) (hnx : nx ≤ bs.length) (hby : ∀ x ∈ bs, 0 ≤ x ∧ x ≤ 255) (hX : XAt wI w gx x) (hT : Tab Wz) (hx0 : x.f0 = (op : Int))
  (hb2 : w.heap[b2]? = some (.cells #[.func (Fn.func fn) #[] cap] 65 (0, 0)))
  (hask : nx + k ≤ bs.length → ∀ w' : World, AskW w' g 80 (rdR Ab bs.length cb ((nx + k : Nat) : Int)) G A n c B locs nx → XAt wI w' gx (setF x 4 (wrap64 (upN bs nx k k))) → KeepBut wI w' g none → Calls Tryd.prog fn (#[.pointer (some ⟨g, 0, none⟩), .pointer (some qf), .pointer (some ⟨gx, 0, none⟩), .int .i64 m] ++ cap) w' fun e w'' => AskPost w' er nx e w'') :
  Calls Tryd.prog 101 #[.pointer (some ⟨g, 0, none⟩), .pointer (some qf), .pointer (some ⟨gx, 0, none⟩), .int .i64 m, .pointer (some ⟨b2, 0, none⟩)] w fun e w' => TakePost Wz wI g gx Ab cb bs G A n c B locs (takeF bs nx k (setF x 4 (wrap64 (upN bs nx k k))) er) e w' := by
 have hk8 := tab_range op
 have HN := Az.mk (number_rd g k ⟨hk1, by omega⟩ G A n c B locs at_ Ab cb bs nx Wz w hz hg hA hB hnx hby)
 have HZ := Az.mk hz
 have HG := Az.mk hg
 have HGi := Az.mk hgI
 have HGx := Az.mk hgx
 have HKp := Az.mk hkp
 have HX := Az.mk hX
 have HAsk := Az.mk hask
 have hen' : ∀ (args : Array Value) (w : World), (callFunc fn args).run Tryd.prog w = .ok (.enter fn args) w := hen
 have o0 : (0 : Int) ≤ (op : Int) := by omega
 have o1 : (op : Int) < 15 := by omega
 have hc1 : w.cell? ⟨gx, 0, none⟩ = some (.int .i64 (op : Int)) := by obtain ⟨_, _, hx, _⟩ := hX; rw [← hx0]; exact (bZ hx 0).trans rfl
 have ht : w.cell? ⟨0, op, none⟩ = some (.int .i64 (k : Int)) := by rw [hk]; exact cZ hz (hT op hop)
 have HB2 := Az.mk hb2
 have Hb2g : Az (b2 ≠ g) := ⟨blk_ne_ty hb2 hA (by decide)⟩
 have Hb2x : Az (b2 ≠ gx) := ⟨by obtain ⟨_, _, hx, _⟩ := hX; exact blk_ne_ty hb2 hx (by decide)⟩
 clear hz hg hgI hgx hkp hA hB hX hask hb2 hen hnx hby hx0 hk hk8 hT
 ·go_enter Tryd.func101, Tryd.ntmps101
  go_wp2_with fail
  refine HN.out.mono ?_
  rintro e w' ⟨rfl, hA1, hZ1, hK1⟩
  have HZ1 := Az.mk hZ1
  have HK1 := Az.mk hK1
  have HX1 := Az.mk (HX.out.keep hK1 HGi.out HGx.out)
  have HKp1 : Az (KeepBut wI w' g none) := ⟨KeepBut.trans HKp.out hK1 (.inl rfl)⟩
  have B21 := Az.mk (hK1.blk HB2.out Hb2g.out (by simp))
  clear hZ1 hK1 HN hc1 ht HX HK1
  obtain ⟨w1, rfl⟩ : ∃ w1, w1 = w' := ⟨_, rfl⟩
  by_cases h0 : nx + k ≤ bs.length
  ·have HA1 := Az.mk (hA1 h0)
   have H0 := Az.mk h0
   rw [if_pos h0]
   have HAsk := Az.mk (HAsk.out h0)
   clear hA1 h0
   obtain ⟨v, hv⟩ : ∃ v, v = wrap64 (upN bs nx k k) := ⟨_, rfl⟩
   have HV := Az.mk hv
   rw [← hv] at HAsk ⊢
   clear hv
   obtain ⟨hbx, hfx⟩ : w1.cell? ⟨gx, 4, none⟩ = some (.int .i64 x.f4) ∧ w1.frozen? ⟨gx, 4, none⟩ = false := by obtain ⟨v5, v6, hxb, _⟩ := HX1.out; exact ⟨(bZ hxb 4).trans rfl, fZ hxb 4⟩
   have HNg : Az (g ≠ gx) := ⟨by have := HGi.out; have := HGx.out; omega⟩
   go_wp2_with fail
   have HX2 := Az.mk (HX1.out.set 4 (by omega) v)
   have HA2 : Az (AskW (w1.setCell ⟨gx, 4, none⟩ (.int .i64 v)) g 80 (rdR Ab bs.length cb ((nx + k : Nat) : Int)) G A n c B locs nx) := ⟨(Below.heap_setCell w1 ⟨gx, 4, none⟩ (.int .i64 v) g HNg.out).trans HA1.out⟩
   have HZ2 : Az (Below Wz.heap.size Wz (w1.setCell ⟨gx, 4, none⟩ (.int .i64 v))) := ⟨sZ HZ1.out (by have := HG.out; have := HGi.out; have := HGx.out; omega)⟩
   have HK2 : Az (KeepBut wI (w1.setCell ⟨gx, 4, none⟩ (.int .i64 v)) g none) := ⟨⟨by simpa [World.setCell] using HKp1.out.1, fun j hj hg hr => (Below.heap_setCell w1 ⟨gx, 4, none⟩ (.int .i64 v) j (fun e => by have := HGx.out; have e2 : j = gx := e; omega)).trans (HKp1.out.2 j hj hg hr)⟩⟩
   have B22 : Az ((w1.setCell ⟨gx, 4, none⟩ (.int .i64 v)).heap[b2]? = some (.cells #[.func (Fn.func fn) #[] cap] 65 (0, 0))) := ⟨(Below.heap_setCell w1 ⟨gx, 4, none⟩ (.int .i64 v) b2 Hb2x.out).trans B21.out⟩
   obtain ⟨w2, hw2⟩ : ∃ w2, w2 = w1.setCell ⟨gx, 4, none⟩ (.int .i64 v) := ⟨_, rfl⟩
   rw [← hw2] at HX2 HA2 HZ2 HK2 B22 ⊢
   clear hw2 HX1 HA1 HZ1 HKp1 B21 hbx hfx
   have hb2 : w2.cell? ⟨b2, 0, none⟩ = some (.func (Fn.func fn) #[] cap) := (bZ B22.out 0).trans rfl
   have HC := Az.mk (HAsk.out w2.drew HA2.out (HX2.out.below (below_drew (Below.refl _ _))) HK2.out)
   by_cases h1 : er = 0
   ·have HC2 : Az (Calls Tryd.prog fn (#[.pointer (some ⟨g, 0, none⟩), .pointer (some qf), .pointer (some ⟨gx, 0, none⟩), .int .i64 m] ++ cap) w2.drew fun e w'' => e = .returned (.tuple #[]) ∧ Below w2.drew.heap.size w2.drew w'') := ⟨HC.out.mono fun e w'' h => ⟨by rw [h.1, if_pos h1], h.2⟩⟩
    refine start_ (n := 8) (S := fun w' => w'.cell? ⟨b2, 0, none⟩ = some (.func (Fn.func fn) #[] cap)) (ds := []) #[false, false, false, false, false, false, false, false] (by kernel_rfl) rfl rfl (hb2) (fun hHeld => ?_)
    refine with_tabW TAB_101.tab1 TAB_101.bits1 (fun HT_ HW_ => ?_)
    refine pq 1 (some 21) HT_ rfl rfl (fun _ _ _ h => h) ?_
    refine pq 2 (some 22) HT_ rfl rfl (fun _ _ _ h => h) ?_
    refine pq 3 (some 23) HT_ rfl rfl (fun _ _ _ h => h) ?_
    refine pq 4 (some 24) HT_ rfl rfl (fun _ _ _ h => h) ?_
    refine pq 5 (some 25) HT_ rfl rfl (fun _ _ _ h => h) ?_
    refine pq 6 (some 26) HT_ rfl rfl (fun _ _ _ h => h) ?_
    refine pt 0 (some 20) (v := ?_) (a' := ?_) rfl rfl (take_ofW HT_.out HW_.out (by kernel_rfl)) (fun _ _ _ h => h) (Or.inl ⟨by rfl, ?_⟩) hHeld ?_ ?_
    rotate_left; (intro w' s0; go_simp; with_reducible rfl); rotate_left; (simp only [Act.put, pn, i64_w, i32_w]; rfl)
    refine one_ (i := 7) (N := some 27) #[true, true, true, true, true, true, true, true] rfl rfl (one_of HT_.out (by kernel_rfl)) (by decide) (fun K hK => ?_)
    refine goesV_ hen' (#[.pointer (some ⟨g, 0, none⟩), .pointer (some qf), .pointer (some ⟨gx, 0, none⟩), .int .i64 m] ++ cap) (by rfl) rfl rfl rfl (by simp only [List.map_toArray, List.map_cons, List.map_nil]; rfl) ?_
    with_reducible refine HC2.out.mono ?_
    rintro e_ wm ⟨rfl, hb⟩
    refine ⟨_, rfl, ?_⟩
    have HBm := Az.mk hb
    clear hb
    refine hK.out _ _ (cZ HBm.out hb2) (fun hHeld => ?_)
    clear hK K
    refine norm_ (a' := ?_) ?_ ?_
    rotate_left
    ·show Act.put _ (some 27) _ = _
     simp only [Act.put, pn, i64_w, i32_w]
     rfl
    refine done_ (done_of HT_.out (by kernel_rfl)) ?_
    clear hHeld HT_ HW_
    go_end0
    refine ⟨HZ2.out.drew.trans (HBm.out.mono HZ2.out.size), KeepBut.trans HK2.out (KeepBut.of_below (show Below w2.heap.size w2 wm from (below_drew (Below.refl _ _)).trans HBm.out) g none) (.inl rfl), ?_⟩
    unfold takeF
    rw [if_pos H0.out, if_pos h1, ← HV.out]
    exact ⟨rfl, ⟨nx, AskW.below (w := w2.drew) HA2.out HBm.out⟩, XAt.below (w := w2.drew) (HX2.out.below (below_drew (Below.refl _ _))) HBm.out⟩
   ·have HC2 : Az (Calls Tryd.prog fn (#[.pointer (some ⟨g, 0, none⟩), .pointer (some qf), .pointer (some ⟨gx, 0, none⟩), .int .i64 m] ++ cap) w2.drew fun e w'' => e = .panicked [{ v := stopV er nx, recovered := false }] ∧ Below w2.drew.heap.size w2.drew w'') := ⟨HC.out.mono fun e w'' h => ⟨by rw [h.1, if_neg h1], h.2⟩⟩
    refine start_ (n := 8) (S := fun w' => w'.cell? ⟨b2, 0, none⟩ = some (.func (Fn.func fn) #[] cap)) (ds := []) #[false, false, false, false, false, false, false, false] (by kernel_rfl) rfl rfl (hb2) (fun hHeld => ?_)
    refine with_tabW TAB_101.tab1 TAB_101.bits1 (fun HT_ HW_ => ?_)
    refine pq 1 (some 21) HT_ rfl rfl (fun _ _ _ h => h) ?_
    refine pq 2 (some 22) HT_ rfl rfl (fun _ _ _ h => h) ?_
    refine pq 3 (some 23) HT_ rfl rfl (fun _ _ _ h => h) ?_
    refine pq 4 (some 24) HT_ rfl rfl (fun _ _ _ h => h) ?_
    refine pq 5 (some 25) HT_ rfl rfl (fun _ _ _ h => h) ?_
    refine pq 6 (some 26) HT_ rfl rfl (fun _ _ _ h => h) ?_
    refine pt 0 (some 20) (v := ?_) (a' := ?_) rfl rfl (take_ofW HT_.out HW_.out (by kernel_rfl)) (fun _ _ _ h => h) (Or.inl ⟨by rfl, ?_⟩) hHeld ?_ ?_
    rotate_left; (intro w' s0; go_simp; with_reducible rfl); rotate_left; (simp only [Act.put, pn, i64_w, i32_w]; rfl)
    refine one_ (i := 7) (N := some 27) #[true, true, true, true, true, true, true, true] rfl rfl (one_of HT_.out (by kernel_rfl)) (by decide) (fun K hK => ?_)
    refine goesVP_ hen' (#[.pointer (some ⟨g, 0, none⟩), .pointer (some qf), .pointer (some ⟨gx, 0, none⟩), .int .i64 m] ++ cap) (by rfl) rfl rfl rfl (by simp only [List.map_toArray, List.map_cons, List.map_nil]; rfl) ?_
    with_reducible refine HC2.out.mono ?_
    rintro e_ wm ⟨rfl, hb⟩
    refine ⟨_, rfl, ?_⟩
    refine ⟨rfl, HZ2.out.drew.trans (hb.mono HZ2.out.size), KeepBut.trans HK2.out (KeepBut.of_below (show Below w2.heap.size w2 wm from (below_drew (Below.refl _ _)).trans hb) g none) (.inl rfl), ?_⟩
    unfold takeF
    rw [if_pos H0.out, if_neg h1]
  ·rw [if_neg h0]
   go_wp2_with fail
   refine ⟨rfl, HZ1.out, HKp1.out, ?_⟩
   unfold takeF
   rw [if_neg h0]
def TAB_105.T1 : Bool × List (List Nat × List Nat) := (true, [([], []), ([0], [0]), ([1], [1]), ([], []), ([], []), ([], []), ([5], [5]), ([6], [6]), ([], []), ([], []), ([4, 7, 8, 9], [4, 7, 8, 9]), ([3, 10], [3, 10]), ([2, 11, 10], [2, 11])])
def TAB_105.B1 : List Nat := [0, 1, 3, 0, 0, 0, 32, 96, 0, 0, 1008, 2040, 4095]
theorem TAB_105.tab1 : rtab .any (opsOf Tryd.f105 1) = TAB_105.T1 := by kernel_rfl
theorem TAB_105.bits1 : waitsOk TAB_105.T1.2 TAB_105.B1 = true := by kernel_rfl
def TAB_105.T5 : Bool × List (List Nat × List Nat) := (true, [([], []), ([0], [0]), ([1], [1]), ([], []), ([], []), ([4], [4]), ([5], [5]), ([6], [6]), ([3, 7], [3, 7]), ([2, 8], [2, 8])])
def TAB_105.B5 : List Nat := [0, 1, 3, 0, 0, 16, 48, 112, 248, 511]
theorem TAB_105.tab5 : rtab .any (opsOf Tryd.f105 5) = TAB_105.T5 := by kernel_rfl
theorem TAB_105.bits5 : waitsOk TAB_105.T5.2 TAB_105.B5 = true := by kernel_rfl
def TAB_105.T6 : Bool × List (List Nat × List Nat) := (true, [([], []), ([], []), ([0, 1], [0, 1]), ([], []), ([], []), ([3, 4, 2], [3, 4]), ([5], [5]), ([6], [6]), ([], []), ([8], [8]), ([7, 9, 5], [7, 9]), ([2, 0, 1, 2, 3, 4, 5, 6, 7, 8, 9, 10], [2]), ([11, 10, 10, 0, 1, 2, 3, 4, 5, 6, 7, 8, 9, 10], [10, 11])])
def TAB_105.B6 : List Nat := [0, 0, 3, 0, 0, 31, 63, 127, 0, 256, 1023, 2047, 4095]
theorem TAB_105.tab6 : rtab .any (opsOf Tryd.f105 6) = TAB_105.T6 := by kernel_rfl
theorem TAB_105.bits6 : waitsOk TAB_105.T6.2 TAB_105.B6 = true := by kernel_rfl
def setL (x : S50) : Nat → List Int → S50
 | 5, l => { x with f5 := x.f5 ++ l }
 | _, l => { x with f6 := x.f6 ++ l }
theorem setL_nil5 (x : S50) : setL x 5 [] = x := by show { x with f5 := x.f5 ++ [] } = x; rw [List.append_nil]
theorem setL_nil6 (x : S50) : setL x 6 [] = x := by show { x with f6 := x.f6 ++ [] } = x; rw [List.append_nil]
theorem setL_snoc5 (x : S50) (l : List Int) (v : Int) : setL x 5 (l ++ [v]) = { setL x 5 l with f5 := (setL x 5 l).f5 ++ [v] } := by show { x with f5 := x.f5 ++ (l ++ [v]) } = { x with f5 := x.f5 ++ l ++ [v] }; rw [List.append_assoc]
theorem setL_snoc6 (x : S50) (l : List Int) (v : Int) : setL x 6 (l ++ [v]) = { setL x 6 l with f6 := (setL x 6 l).f6 ++ [v] } := by show { x with f6 := x.f6 ++ (l ++ [v]) } = { x with f6 := x.f6 ++ l ++ [v] }; rw [List.append_assoc]
theorem XAt.app5 {wI W w7 : World} {gx : Nat} {x : S50} {v5 v6 v5' : Value} {v : Int} (hx : XBlk W gx x v5 v6) (h5 : kI.R 3 W wI.heap.size (fun k => wI.heap.size ≤ k ∧ some k ≠ v6.ownBlock) v5 x.f5) (h6 : kI.R 3 W wI.heap.size (fun k => wI.heap.size ≤ k ∧ some k ≠ v5.ownBlock) v6 x.f6) (ho : kI.R 3 w7 wI.heap.size (fun k => wI.heap.size ≤ k ∧ some k ≠ v6.ownBlock) v5' (x.f5 ++ [v])) (hg : W.grownBy w7 v5.ownBlock) (hat : v5'.ownBlock = v5.ownBlock ∨ ∃ b, v5'.ownBlock = some b ∧ W.heap.size ≤ b) : XAt wI (w7.setCell ⟨gx, 5, none⟩ v5') gx { x with f5 := x.f5 ++ [v] } := by
 have hx7 := blk_grown hx hg (Kd.R_ne h5 hx (by decide))
 exact ⟨v5', v6, (blk_set hx7 5 _).trans rfl, Kd.R_set ho hx7 (by decide) 5 _, Kd.R_set (Kd.R_after h6 hg hat) hx7 (by decide) 5 _⟩
theorem XAt.app6 {wI W w7 : World} {gx : Nat} {x : S50} {v5 v6 v6' : Value} {v : Int} (hx : XBlk W gx x v5 v6) (h5 : kI.R 3 W wI.heap.size (fun k => wI.heap.size ≤ k ∧ some k ≠ v6.ownBlock) v5 x.f5) (h6 : kI.R 3 W wI.heap.size (fun k => wI.heap.size ≤ k ∧ some k ≠ v5.ownBlock) v6 x.f6) (ho : kI.R 3 w7 wI.heap.size (fun k => wI.heap.size ≤ k ∧ some k ≠ v5.ownBlock) v6' (x.f6 ++ [v])) (hg : W.grownBy w7 v6.ownBlock) (hat : v6'.ownBlock = v6.ownBlock ∨ ∃ b, v6'.ownBlock = some b ∧ W.heap.size ≤ b) : XAt wI (w7.setCell ⟨gx, 6, none⟩ v6') gx { x with f6 := x.f6 ++ [v] } := by
 have hx7 := blk_grown hx hg (Kd.R_ne h6 hx (by decide))
 exact ⟨v5, v6', (blk_set hx7 6 _).trans rfl, Kd.R_set (Kd.R_after h5 hg hat) hx7 (by decide) 6 _, Kd.R_set ho hx7 (by decide) 6 _⟩
def listR (bs : List Int) (V : Int) (p : Nat) : Nat → Except (Int × Int) (List Int)
 | 0 => .ok []
 | q + 1 => match listR bs V p q with
  | .error e => .error e
  | .ok l => if p + q + 1 ≤ bs.length then (if bs.getD (p + q) 0 < V then .ok (l ++ [bs.getD (p + q) 0]) else .error (13, ((p + q : Nat) : Int))) else .error (11, bs.length)
def takeL (bs : List Int) (nx : Nat) (W V : Int) (x : S50) (j : Nat) : Except (Int × Int) (S50 × Nat) :=
 if nx + 1 ≤ bs.length then (if bs.getD nx 0 = W then (match listR bs V (nx + 1) (bs.getD nx 0).toNat with | .ok l => .ok (setL x j l, nx + 1 + (bs.getD nx 0).toNat) | .error e => .error e) else .error (15, nx)) else .error (11, bs.length)
theorem listR_next {bs : List Int} {V : Int} {p q : Nat} {l : List Int} (h : listR bs V p q = .ok l) : listR bs V p (q + 1) = if p + q + 1 ≤ bs.length then (if bs.getD (p + q) 0 < V then .ok (l ++ [bs.getD (p + q) 0]) else .error (13, ((p + q : Nat) : Int))) else .error (11, bs.length) := by
 show (match listR bs V p q with | .error e => Except.error e | .ok l => _) = _
 rw [h]
theorem listR_err {bs : List Int} {V : Int} {p q : Nat} {e : Int × Int} (h : listR bs V p q = .error e) : ∀ n, q ≤ n → listR bs V p n = .error e
 | 0, hn => by
  obtain rfl : q = 0 := by omega
  exact h
 | n + 1, hn => by
  rcases Nat.lt_or_ge n q with g | g
  ·obtain rfl : q = n + 1 := by omega
   exact h
  ·show (match listR bs V p n with | .error e => Except.error e | .ok l => _) = _
   rw [listR_err h n g]
theorem listR_len {bs : List Int} {V : Int} {p : Nat} : ∀ {q : Nat} {l : List Int}, listR bs V p q = .ok l → l.length = q
 | 0, l, h => by injection h with h; subst h; rfl
 | q + 1, l, h => by
  cases e : listR bs V p q with
  | error er =>
   rw [listR_err e (q + 1) (by omega)] at h
   cases h
  | ok l0 =>
   rw [listR_next e] at h
   split at h
   ·split at h
    ·injection h with h
     subst h
     rw [List.length_append, listR_len e]
     rfl
    ·cases h
   ·cases h
theorem byte_at {bs : List Int} (hby : ∀ x ∈ bs, 0 ≤ x ∧ x ≤ 255) (p : Nat) : 0 ≤ bs.getD p 0 ∧ bs.getD p 0 ≤ 255 := by
 rw [List.getD_eq_getElem?_getD]
 rcases Nat.lt_or_ge p bs.length with g | g
 ·rw [List.getElem?_eq_getElem g]; exact hby _ (List.getElem_mem g)
 ·rw [List.getElem?_eq_none g]; decide
def fldL (x : S50) (j : Nat) : List Int := if j = 5 then x.f5 else x.f6
theorem setL_nil {j : Nat} (hj : j = 5 ∨ j = 6) (x : S50) : setL x j [] = x := by
 rcases hj with rfl | rfl
 ·exact setL_nil5 x
 ·exact setL_nil6 x
theorem fldL_len {j : Nat} (hj : j = 5 ∨ j = 6) (x : S50) (l : List Int) : (fldL (setL x j l) j).length ≤ x.f5.length + x.f6.length + l.length := by
 rcases hj with rfl | rfl
 ·show (x.f5 ++ l).length ≤ _
  rw [List.length_append]; omega
 ·show (x.f6 ++ l).length ≤ _
  rw [List.length_append]; omega
theorem XAt.row {wI w : World} {gx j : Nat} {x : S50} {l : List Int} (hj : j = 5 ∨ j = 6) (h : XAt wI w gx (setL x j l)) : ∃ (cs : Array Value) (vj vo : Value), w.heap[gx]? = some (.cells cs 50 (0, 0)) ∧ (∀ w7 : World, w7.heap[gx]? = some (.cells cs 50 (0, 0)) → w7.cell? ⟨gx, j, none⟩ = some vj ∧ w7.frozen? ⟨gx, j, none⟩ = false) ∧
  kI.R 3 w wI.heap.size (fun k => wI.heap.size ≤ k ∧ some k ≠ vo.ownBlock) vj (fldL (setL x j l) j) ∧ (∀ k, vo.ownBlock = some k → k < w.heap.size) ∧
  (∀ (w7 : World) (v' : Value) (v : Int), kI.R 3 w7 wI.heap.size (fun k => wI.heap.size ≤ k ∧ some k ≠ vo.ownBlock) v' (fldL (setL x j l) j ++ [v]) → w.grownBy w7 vj.ownBlock → (v'.ownBlock = vj.ownBlock ∨ ∃ b, v'.ownBlock = some b ∧ w.heap.size ≤ b) → XAt wI (w7.setCell ⟨gx, j, none⟩ v') gx (setL x j (l ++ [v]))) := by
 obtain ⟨v5, v6, hxb, h5, h6⟩ := h
 rcases hj with rfl | rfl
 ·exact ⟨_, v5, v6, hxb, fun w7 h => ⟨(bZ h 5).trans rfl, fZ h 5⟩, h5, Kd.R_lt h6, fun w7 v' v hr hg hat => by rw [setL_snoc5]; exact XAt.app5 hxb h5 h6 hr hg hat⟩
 ·exact ⟨_, v6, v5, hxb, fun w7 h => ⟨(bZ h 6).trans rfl, fZ h 6⟩, h6, Kd.R_lt h5, fun w7 v' v hr hg hat => by rw [setL_snoc6]; exact XAt.app6 hxb h5 h6 hr hg hat⟩
set_option maxRecDepth 100000 in
set_option maxHeartbeats 16000000 in
theorem take_list (fo fw j : Nat) (hw : Enters fw) (hof : ∀ (q : Addr) (w : World), Calls Tryd.prog fo #[.pointer (some q)] w fun e w' => e = .returned (.pointer (some ⟨q.block, q.off + j, none⟩)) ∧ w = w') (hf : fo = 81 ∧ j = 5 ∨ fo = 83 ∧ j = 6)
  (g gx b4 b5 : Nat) (qf : Addr) (m W V : Int) (G : Int) (A : Option Addr) (n c B : Nat) (locs at_ : Int) (Ab : Option Addr) (cb : Nat) (bs : List Int) (nx : Nat) (x : S50) (Wz wI w : World)
  (hz : Below Wz.heap.size Wz w) (hg : Wz.heap.size ≤ g) (hgI : g < wI.heap.size) (hgx : wI.heap.size ≤ gx) (hkp : KeepBut wI w g none) (hA : AskW w g 80 (rdR Ab bs.length cb nx) G A n c B locs at_) (hB : kB.C Wz Ab bs.length bs) (hnx : nx ≤ bs.length) (hby : ∀ x ∈ bs, 0 ≤ x ∧ x ≤ 255) (hX : XAt wI w gx x)
  (hx5 : x.f5.length ≤ 1000) (hx6 : x.f6.length ≤ 1000) (hqg : qf.block ≠ g) (hV : wI.cell? ⟨qf.block, qf.off + 2, none⟩ = some (.int .i64 V))
  (hb4 : wI.heap[b4]? = some (.cells #[.func (Fn.func fo) #[] #[]] 113 (0, 0))) (hb5 : wI.heap[b5]? = some (.cells #[.func (Fn.func fw) #[] #[]] 114 (0, 0))) (hAI : ∃ ds, wI.heap[g]? = some (.cells ds 80 (0, 0)))
  (hwant : ∀ w' : World, AskW w' g 80 (rdR Ab bs.length cb ((nx + 1 : Nat) : Int)) G A n c B locs nx → XAt wI w' gx x → KeepBut wI w' g none → Calls Tryd.prog fw #[.pointer (some ⟨g, 0, none⟩), .pointer (some qf), .pointer (some ⟨gx, 0, none⟩)] w' fun e w'' => e = .returned (.int .i64 W) ∧ Below w'.heap.size w' w'') :
  Calls Tryd.prog 105 #[.pointer (some ⟨g, 0, none⟩), .pointer (some qf), .pointer (some ⟨gx, 0, none⟩), .int .i64 m, .pointer (some ⟨b5, 0, none⟩), .pointer (some ⟨b4, 0, none⟩)] w fun e w' => TakePost Wz wI g gx Ab cb bs G A n c B locs (takeL bs nx W V x j) e w' := by
 have HN := Az.mk (number_rd g 1 (by omega) G A n c B locs at_ Ab cb bs nx Wz w hz hg hA hB hnx hby)
 have HO2 : Az (∀ w : World, Calls Tryd.prog fo (#[.pointer (some ⟨gx, 0, none⟩)] ++ #[]) w fun e w' => e = .returned (.pointer (some ⟨gx, j, none⟩)) ∧ w = w') := ⟨fun w => by have h := hof ⟨gx, 0, none⟩ w; rw [show (⟨gx, 0, none⟩ : Addr).off + j = j from Nat.zero_add j] at h; exact h⟩
 have HJ : Az (j = 5 ∨ j = 6) := ⟨by omega⟩
 have hen2 : ∀ (args : Array Value) (w : World), (callFunc fo args).run Tryd.prog w = .ok (.enter fo args) w := by
  rcases hf with ⟨rfl, rfl⟩ | ⟨rfl, rfl⟩
  ·exact ent81
  ·exact ent83
 have HZ := Az.mk hz
 have HG := Az.mk hg
 have HGi := Az.mk hgI
 have HGx := Az.mk hgx
 have HKp := Az.mk hkp
 have HX := Az.mk hX
 have HW := Az.mk hwant
 have HBs := Az.mk hB
 have HBy := Az.mk hby
 have HV := Az.mk hV
 have HQg := Az.mk hqg
 have H56 := Az.mk (And.intro hx5 hx6)
 have hm : bs.length ≤ 9223372036854775807 := Kd.C_max hB
 have Hm := Az.mk hm
 have HNo := Az.mk (num_one bs nx hby)
 have hbn := byte_at hby nx
 have hen : ∀ (args : Array Value) (w : World), (callFunc fw args).run Tryd.prog w = .ok (.enter fw args) w := hw
 have B4 : Az (∀ w', KeepBut wI w' g none → w'.heap[b4]? = some (.cells #[.func (Fn.func fo) #[] #[]] 113 (0, 0))) := ⟨fun w' hk => by obtain ⟨ds, hd⟩ := hAI; exact hk.blk hb4 (blk_ne_ty hb4 hd (by decide)) (by simp)⟩
 have B5 : Az (∀ w', KeepBut wI w' g none → w'.heap[b5]? = some (.cells #[.func (Fn.func fw) #[] #[]] 114 (0, 0))) := ⟨fun w' hk => by obtain ⟨ds, hd⟩ := hAI; exact hk.blk hb5 (blk_ne_ty hb5 hd (by decide)) (by simp)⟩
 have HNg : Az (g ≠ gx) := ⟨by omega⟩
 clear hof hz hg hgI hgx hkp hA hB hX hwant hw hnx hby hV hqg hx5 hx6 hb4 hb5 hAI hm
 clear hf
 go_enter Tryd.func105, Tryd.ntmps105
 go_wp2_with fail
 refine HN.out.mono ?_
 rintro e w' ⟨rfl, hA1, hZ1, hK1⟩
 have HZ1 := Az.mk hZ1
 have HX1 := Az.mk (HX.out.keep hK1 HGi.out HGx.out)
 have HKp1 : Az (KeepBut wI w' g none) := ⟨KeepBut.trans HKp.out hK1 (.inl rfl)⟩
 clear hZ1 hK1 HN HX
 obtain ⟨w1, rfl⟩ : ∃ w1, w1 = w' := ⟨_, rfl⟩
 by_cases h0 : nx + 1 ≤ bs.length
 ·have HA1 := Az.mk (hA1 h0)
  have H0 := Az.mk h0
  rw [if_pos h0, HNo.out]
  clear hA1 h0
  obtain ⟨v, hv⟩ : ∃ v, v = bs.getD nx 0 := ⟨_, rfl⟩
  have HVv := Az.mk hv
  rw [← hv] at hbn ⊢
  clear hv
  obtain ⟨N, rfl⟩ : ∃ N : Nat, v = (N : Int) := ⟨v.toNat, by omega⟩
  have HWc : Az (Calls Tryd.prog fw (#[.pointer (some ⟨g, 0, none⟩), .pointer (some qf), .pointer (some ⟨gx, 0, none⟩)] ++ #[]) w1.drew fun e w'' => e = .returned (.int .i64 W) ∧ Below w1.drew.heap.size w1.drew w'') := ⟨HW.out w1.drew HA1.out (HX1.out.below (below_drew (Below.refl _ _))) HKp1.out⟩
  have hb5 : w1.cell? ⟨b5, 0, none⟩ = some (.func (Fn.func fw) #[] #[]) := (bZ (B5.out w1 HKp1.out) 0).trans rfl
  go_wp2_with fail
  by_cases h1 : (N : Int) = W
  ·have e1 : ((N : Int) == W) = true := by rw [beq_iff_eq]; exact h1
   have H1 := Az.mk h1
   clear h1
   refine start_ (n := 13) (S := fun w' => w'.cell? ⟨b5, 0, none⟩ = some (.func (Fn.func fw) #[] #[])) (ds := []) #[false, false, false, false, false, false, false, false, false, false, false, false, false] (by kernel_rfl) rfl rfl (hb5) (fun hHeld => ?_)
   refine with_tabW TAB_105.tab1 TAB_105.bits1 (fun HT_ HW_ => ?_)
   refine pq 0 (some 14) HT_ rfl rfl (fun _ _ _ h => h) ?_
   refine pq 1 (some 15) HT_ rfl rfl (fun _ _ _ h => h) ?_
   refine pq 2 (some 16) HT_ rfl rfl (fun _ _ _ h => h) ?_
   refine pq 3 (some 17) HT_ rfl rfl (fun _ _ _ h => h) ?_
   refine pq 5 (some 19) HT_ rfl rfl (fun _ _ _ h => h) ?_
   refine pq 6 (some 20) HT_ rfl rfl (fun _ _ _ h => h) ?_
   refine pq 7 (some 21) HT_ rfl rfl (fun _ _ _ h => h) ?_
   refine pq 8 (some 22) HT_ rfl rfl (fun _ _ _ h => h) ?_
   refine pq 9 (some 23) HT_ rfl rfl (fun _ _ _ h => h) ?_
   refine pt 4 (some 18) (v := ?_) (a' := ?_) rfl rfl (take_ofW HT_.out HW_.out (by kernel_rfl)) (fun _ _ _ h => h) (Or.inl ⟨by rfl, ?_⟩) hHeld ?_ ?_
   rotate_left; (intro w' s0; go_simp; with_reducible rfl); rotate_left; (simp only [Act.put, pn, i64_w, i32_w]; rfl)
   refine one_ (i := 10) (N := some 24) #[true, true, true, true, true, true, true, true, true, true, true, false, false] rfl rfl (one_of HT_.out (by kernel_rfl)) (by decide) (fun K hK => ?_)
   refine goesV_ hen (#[.pointer (some ⟨g, 0, none⟩), .pointer (some qf), .pointer (some ⟨gx, 0, none⟩)] ++ #[]) (by rfl) rfl rfl rfl (by simp only [List.map_toArray, List.map_cons, List.map_nil]; rfl) ?_
   with_reducible refine HWc.out.mono ?_
   rintro e_ wm ⟨rfl, hb⟩
   have HBm := Az.mk hb
   have H4 : Az (wm.cell? ⟨g, 4, none⟩ = some (.int .i64 nx)) := ⟨(bZ (AskW.below (w := w1.drew) HA1.out hb) 4).trans rfl⟩
   clear hb
   refine ⟨_, rfl, ?_⟩
   refine hK.out _ _ (cZ HBm.out hb5) (fun hHeld => ?_)
   clear hK K
   refine norm_ (a' := ?_) ?_ ?_
   rotate_left
   ·show Act.put _ (some 24) _ = _
    simp only [Act.put, pn, i64_w, i32_w]
    rfl
   refine pq 11 (some 25) HT_ rfl rfl (fun _ _ _ h => h) ?_
   refine one_ (i := 12) (N := some 26) #[true, true, true, true, true, true, true, true, true, true, true, true, true] rfl rfl (one_of HT_.out (by kernel_rfl)) (by decide) (fun K hK => ?_)
   refine goes_ Tryd.func42 (by kernel_rfl) rfl #[.pointer (some ⟨g, 0, none⟩), .bool true, .int .i64 15] (by rfl) rfl rfl (by simp only [List.map_toArray, List.map_cons, List.map_nil]; rfl) ?_
   with_reducible refine (must_true _ _ _).mono ?_
   rintro e_ wm2 ⟨rfl, rfl⟩
   refine ⟨_, rfl, ?_⟩
   refine hK.out _ _ (cZ HBm.out hb5) (fun hHeld => ?_)
   clear hK K
   refine norm_ (a' := ?_) ?_ ?_
   rotate_left
   ·show Act.put _ (some 26) _ = _
    simp only [Act.put, pn, i64_w, i32_w]
    rfl
   refine done_ (done_of HT_.out (by kernel_rfl)) ?_
   clear hHeld HT_ HW_ hb5 e1 HWc
   have HAm : Az (AskW wm g 80 (rdR Ab bs.length cb ((nx + 1 : Nat) : Int)) G A n c B locs nx) := ⟨AskW.below (w := w1.drew) HA1.out HBm.out⟩
   have HXm : Az (XAt wI wm gx x) := ⟨XAt.below (w := w1.drew) (HX1.out.below (below_drew (Below.refl _ _))) HBm.out⟩
   have HZm : Az (Below Wz.heap.size Wz wm) := ⟨HZ1.out.drew.trans (HBm.out.mono HZ1.out.size)⟩
   have HKm : Az (KeepBut wI wm g none) := ⟨KeepBut.trans HKp1.out (KeepBut.of_below (show Below w1.heap.size w1 wm from (below_drew (Below.refl _ _)).trans HBm.out) g none) (.inl rfl)⟩
   clear HA1 HX1 HZ1 HKp1 HBm H4
   go_wp2_with fail
   go_loopw [28] (fun v28 w' => ∃ (q : Nat) (l : List Int), q ≤ N ∧ v28 = .int .i64 (q : Int) ∧ Az (listR bs V (nx + 1) q = .ok l) ∧ Az (nx + 1 + q ≤ bs.length) ∧ Az (∃ a, AskW w' g 80 (rdR Ab bs.length cb ((nx + 1 + q : Nat) : Int)) G A n c B locs a) ∧ Az (XAt wI w' gx (setL x j l)) ∧ Az (Below Wz.heap.size Wz w') ∧ Az (KeepBut wI w' g none)) (fun i _ => N - (intOf i).toNat)
   case atStart => exact ⟨0, [], Nat.zero_le _, rfl, ⟨rfl⟩, H0, ⟨nx, HAm.out⟩, ⟨by rw [setL_nil HJ.out]; exact HXm.out⟩, HZm, HKm⟩
   case round =>
    obtain ⟨q, l, hq, rfl, HR, HP, HAe, HX2, HZ2, HK2⟩ := hrel
    clear HAm HXm HZm HKm
    by_cases hlt : q < N
    ·obtain ⟨a, hA2⟩ := HAe.out
     obtain ⟨p, hp⟩ : ∃ p, p = nx + 1 + q := ⟨_, rfl⟩
     have HPp := Az.mk hp
     rw [← hp] at hA2 HP
     clear hp
     have HNq := Az.mk (number_rd g 1 (by omega) G A n c B locs a Ab cb bs p Wz wr HZ2.out HG.out hA2 HBs.out HP.out HBy.out)
     have hwp : wrap64 ((q : Int) + 1) = (q : Int) + 1 := wrap_in (by omega) (by omega)
     have q0 : (0 : Int) ≤ (q : Int) := by omega
     have q1 : (q : Int) < (N : Int) := by omega
     clear hA2
     go_wp2_with fail
     refine HNq.out.mono ?_
     rintro e w' ⟨rfl, hA3, hZ3, hK3⟩
     have HZ3 := Az.mk hZ3
     have HX3 := Az.mk (HX2.out.keep hK3 HGi.out HGx.out)
     have HK3 : Az (KeepBut wI w' g none) := ⟨KeepBut.trans HK2.out hK3 (.inl rfl)⟩
     clear hZ3 hK3 HNq HX2 HZ2 HK2 HAe
     obtain ⟨w4, rfl⟩ : ∃ w4, w4 = w' := ⟨_, rfl⟩
     have HSt := Az.mk (listR_next HR.out)
     rw [← HPp.out] at HSt
     by_cases h2 : p + 1 ≤ bs.length
     ·have HA3 := Az.mk (hA3 h2)
      have H2 := Az.mk h2
      rw [if_pos h2, num_one bs p HBy.out]
      clear hA3 h2
      obtain ⟨v, hv⟩ : ∃ v, v = bs.getD p 0 := ⟨_, rfl⟩
      have HV2 := Az.mk hv
      rw [← hv] at HSt ⊢
      clear hv
      have hVc := KeepBut.cell HK3.out HV.out HQg.out
      have H4 : Az (w4.drew.cell? ⟨g, 4, none⟩ = some (.int .i64 p)) := ⟨(bZ (show w4.drew.heap[g]? = _ from HA3.out) 4).trans rfl⟩
      go_wp2_with fail
      by_cases h3 : v < V
      ·have hcd : decide (v < V) = true := decide_eq_true h3
       have H3 := Az.mk h3
       clear h3
       refine start_ (n := 10) (S := fun w' => w'.cell? ⟨qf.block, qf.off + 2, none⟩ = some (.int .i64 V)) (ds := []) #[false, false, false, false, false, false, false, false, false, false] (by kernel_rfl) rfl rfl (hVc) (fun hHeld => ?_)
       refine with_tabW TAB_105.tab5 TAB_105.bits5 (fun HT_ HW_ => ?_)
       refine pq 0 (some 32) HT_ rfl rfl (fun _ _ _ h => h) ?_
       refine pq 1 (some 33) HT_ rfl rfl (fun _ _ _ h => h) ?_
       refine pq 2 (some 34) HT_ rfl rfl (fun _ _ _ h => h) ?_
       refine pq 3 (some 35) HT_ rfl rfl (fun _ _ _ h => h) ?_
       refine pq 4 (some 36) HT_ rfl rfl (fun _ _ _ h => h) ?_
       refine pq 5 (some 37) HT_ rfl rfl (fun _ _ _ h => h) ?_
       refine pq 6 (some 38) HT_ rfl rfl (fun _ _ _ h => h) ?_
       refine pt 7 (some 39) (v := ?_) (a' := ?_) rfl rfl (take_ofW HT_.out HW_.out (by kernel_rfl)) (fun _ _ _ h => h) (Or.inl ⟨by rfl, ?_⟩) hHeld ?_ ?_
       rotate_left; (intro w' s0; go_simp; with_reducible rfl); rotate_left; (simp only [Act.put, pn, i64_w, i32_w]; rfl)
       refine pq 8 (some 40) HT_ rfl rfl (fun _ _ _ h => h) ?_
       refine one_ (i := 9) (N := some 41) #[true, true, true, true, true, true, true, true, true, true] rfl rfl (one_of HT_.out (by kernel_rfl)) (by decide) (fun K hK => ?_)
       refine goes_ Tryd.func42 (by kernel_rfl) rfl #[.pointer (some ⟨g, 0, none⟩), .bool true, .int .i64 13] (by rfl) rfl rfl (by simp only [List.map_toArray, List.map_cons, List.map_nil]; rfl) ?_
       with_reducible refine (must_true _ _ _).mono ?_
       rintro e_ wm2 ⟨rfl, rfl⟩
       refine ⟨_, rfl, ?_⟩
       refine hK.out _ _ (hVc) (fun hHeld => ?_)
       clear hK K
       refine norm_ (a' := ?_) ?_ ?_
       rotate_left
       ·show Act.put _ (some 41) _ = _
        simp only [Act.put, pn, i64_w, i32_w]
        rfl
       refine done_ (done_of HT_.out (by kernel_rfl)) ?_
       clear hHeld HT_ HW_ hVc hcd H4
       have HA5 : Az (AskW w4.drew g 80 (rdR Ab bs.length cb ((p + 1 : Nat) : Int)) G A n c B locs p) := ⟨HA3.out⟩
       have HX5 : Az (XAt wI w4.drew gx (setL x j l)) := ⟨HX3.out.below (below_drew (Below.refl _ _))⟩
       have HZ5 : Az (Below Wz.heap.size Wz w4.drew) := ⟨HZ3.out.drew⟩
       have HK5 : Az (KeepBut wI w4.drew g none) := ⟨HK3.out⟩
       clear HA3 HX3 HZ3 HK3
       obtain ⟨w5, hw5⟩ : ∃ w5, w5 = w4.drew := ⟨_, rfl⟩
       rw [← hw5] at HA5 HX5 HZ5 HK5 ⊢
       clear hw5
       have B45 := Az.mk (B4.out w5 HK5.out)
       have HLx : Az ((fldL (setL x j l) j).length ≤ 4000) := ⟨by have h := listR_len HR.out; have h2 := fldL_len HJ.out x l; have := H56.out; omega⟩
       obtain ⟨cs, vj, vo, hxb, hcl, hrv, hvo, happ⟩ := XAt.row (w := w5.drew) HJ.out (HX5.out.below (below_drew (Below.refl _ _)))
       have HXb : Az (w5.heap[gx]? = some (.cells cs 50 (0, 0))) := ⟨hxb⟩
       have HCl := Az.mk hcl
       have HVo : Az (∀ k, vo.ownBlock = some k → k < w5.heap.size) := ⟨hvo⟩
       have HRv : Az (kI.R 3 w5.drew wI.heap.size (fun k => wI.heap.size ≤ k ∧ some k ≠ vo.ownBlock) vj (fldL (setL x j l) j)) := ⟨hrv⟩
       have HApp := Az.mk happ
       clear hxb hcl hrv hvo happ
       obtain ⟨xs, hxs⟩ : ∃ xs, xs = fldL (setL x j l) j := ⟨_, rfl⟩
       have HXs := Az.mk hxs
       rw [← hxs] at HLx HRv
       clear hxs
       obtain ⟨Av, cv, hvv⟩ := Kd.R_slice HRv.out
       subst hvv
       obtain ⟨L0, hL0⟩ : ∃ L0, L0 = xs.length := ⟨_, rfl⟩
       have HL0 := Az.mk hL0
       rw [← hL0] at HRv HCl HApp
       clear hL0
       have hs0 : w5.cell? ⟨b4, 0, none⟩ = some (.func (Fn.func fo) #[] #[]) := (bZ B45.out 0).trans rfl
       have hs1 : w5.cell? ⟨gx, j, none⟩ = some (.slice Av L0 cv) := (HCl.out _ HXb.out).1
       go_wp2_with fail
       refine start_ (n := 13) (S := fun w' => w'.cell? ⟨b4, 0, none⟩ = some (.func (Fn.func fo) #[] #[]) ∧ w'.cell? ⟨gx, j, none⟩ = some (.slice Av L0 cv)) (ds := [12]) #[false, false, false, false, false, false, false, false, false, false, false, false, false] (by kernel_rfl) rfl rfl ⟨hs0, hs1⟩ (fun hHeld => ?_)
       refine with_tabW TAB_105.tab6 TAB_105.bits6 (fun HT_ HW_ => ?_)
       refine pq 1 (some 43) HT_ rfl rfl (fun _ _ _ h => h) ?_
       refine pq 4 (some 46) HT_ rfl rfl (fun _ _ _ h => h) ?_
       refine pq 8 (some 50) HT_ rfl rfl (fun _ _ _ h => h) ?_
       refine pt 0 (some 42) (v := ?_) (a' := ?_) rfl rfl (take_ofW HT_.out HW_.out (by kernel_rfl)) (fun _ _ _ h => h) (Or.inl ⟨by rfl, ?_⟩) hHeld ?_ ?_
       rotate_left; (rintro w' ⟨s0, s1⟩; go_simp; with_reducible rfl); rotate_left; (simp only [Act.put, pn, i64_w, i32_w]; rfl)
       refine pt 3 (some 45) (v := ?_) (a' := ?_) rfl rfl (take_ofW HT_.out HW_.out (by kernel_rfl)) (fun _ _ _ h => h) (Or.inl ⟨by rfl, ?_⟩) hHeld ?_ ?_
       rotate_left; (rintro w' ⟨s0, s1⟩; go_simp; with_reducible rfl); rotate_left; (simp only [Act.put, pn, i64_w, i32_w]; rfl)
       refine join_ (σ := Unit) 3 #[true, true, true, true, true, true, true, true, true, true, false, false, false] (fun _ => [(44, .pointer (some ⟨gx, j, none⟩)), (47, .pointer (some ⟨gx, j, none⟩)), (51, .slice (some ⟨w5.heap.size, 0, none⟩) 1 1), (48, .pointer (some ⟨gx, j, none⟩)), (49, .slice Av L0 cv)]) (fun _ w' => w' = (World.alloc w5.drew (Obj.cells #[.int .i64 v] 3))) ?_ ?_
       rotate_left
       ·intro hCont
        refine two_ (i := 2) (j := 9) (Ni := some 44) (Nj := some 51) #[true, true, true, true, true, false, false, false, true, false, false, false, false] #[true, true, false, true, true, false, false, false, true, true, false, false, false] rfl rfl rfl rfl (two_of HT_.out (by kernel_rfl)) (by decide) (by decide) (fun K hK => ?_) (fun K hK => ?_)
        ·skip
         refine goesV_ hen2 (#[.pointer (some ⟨gx, 0, none⟩)] ++ #[]) (by rfl) rfl rfl rfl (by simp only [List.map_toArray, List.map_cons, List.map_nil]; rfl) ?_
         with_reducible refine (HO2.out _).mono ?_
         rintro e_ wc ⟨rfl, rfl⟩
         refine ⟨_, rfl, ?_⟩
         refine hK.out _ _ ⟨(by first | exact hs0 | exact cZ (lZ (Below.refl _ _) _) hs0), (by first | exact hs1 | exact cZ (lZ (Below.refl _ _) _) hs1)⟩ (fun hHeld => ?_)
         clear hK K
         refine norm_ (a' := ?_) ?_ ?_
         rotate_left
         ·show Act.put _ (some 44) _ = _
          simp only [Act.put, pn, i64_w, i32_w]
          rfl
         refine two_ (i := 5) (j := 9) (Ni := some 47) (Nj := some 51) #[true, true, true, true, true, true, false, false, true, false, false, false, false] #[true, true, true, true, true, false, false, false, true, true, false, false, false] rfl rfl rfl rfl (two_of HT_.out (by kernel_rfl)) (by decide) (by decide) (fun K hK => ?_) (fun K hK => ?_)
         ·skip
          refine goesV_ hen2 (#[.pointer (some ⟨gx, 0, none⟩)] ++ #[]) (by rfl) rfl rfl rfl (by simp only [List.map_toArray, List.map_cons, List.map_nil]; rfl) ?_
          with_reducible refine (HO2.out _).mono ?_
          rintro e_ wc ⟨rfl, rfl⟩
          refine ⟨_, rfl, ?_⟩
          refine hK.out _ _ ⟨(by first | exact hs0 | exact cZ (lZ (Below.refl _ _) _) hs0), (by first | exact hs1 | exact cZ (lZ (Below.refl _ _) _) hs1)⟩ (fun hHeld => ?_)
          clear hK K
          refine norm_ (a' := ?_) ?_ ?_
          rotate_left
          ·show Act.put _ (some 47) _ = _
           simp only [Act.put, pn, i64_w, i32_w]
           rfl
          refine pq 6 (some 48) HT_ rfl rfl (fun _ _ _ h => h) ?_
          refine pt 7 (some 49) (v := ?_) (a' := ?_) rfl rfl (take_ofW HT_.out HW_.out (by kernel_rfl)) (fun _ _ _ h => h) (Or.inl ⟨by rfl, ?_⟩) hHeld ?_ ?_
          rotate_left; (rintro w' ⟨s0, s1⟩; go_simp; with_reducible rfl); rotate_left; (simp only [Act.put, pn, i64_w, i32_w]; rfl)
          refine one_ (i := 9) (N := some 51) #[true, true, true, true, true, true, true, true, true, true, false, false, false] rfl rfl (one_of HT_.out (by kernel_rfl)) (by decide) (fun K hK => ?_)
          refine value_ (w1 := ?_) (v := ?_) (by rfl) rfl ?_ ?_
          rotate_left 2
          ·go_simp
           constructor
           ·rfl
           ·rfl
          refine hK.out _ _ ⟨(by first | exact hs0 | exact cZ (lZ (Below.refl _ _) _) hs0), (by first | exact hs1 | exact cZ (lZ (Below.refl _ _) _) hs1)⟩ (fun hHeld => ?_)
          clear hK K
          refine norm_ (a' := ?_) ?_ ?_
          rotate_left
          ·show Act.put _ (some 51) _ = _
           simp only [Act.put, pn, i64_w, i32_w]
           rfl
          exact norm_ (by simp only [putAll, Act.put, pn]) (hCont () _ rfl)
         ·skip
          refine value_ (w1 := ?_) (v := ?_) (by rfl) rfl ?_ ?_
          rotate_left 2
          ·go_simp
           constructor
           ·rfl
           ·rfl
          refine hK.out _ _ ⟨(by first | exact hs0 | exact cZ (lZ (Below.refl _ _) _) hs0), (by first | exact hs1 | exact cZ (lZ (Below.refl _ _) _) hs1)⟩ (fun hHeld => ?_)
          clear hK K
          refine norm_ (a' := ?_) ?_ ?_
          rotate_left
          ·show Act.put _ (some 51) _ = _
           simp only [Act.put, pn, i64_w, i32_w]
           rfl
          refine one_ (i := 5) (N := some 47) #[true, true, true, true, true, true, false, false, true, true, false, false, false] rfl rfl (one_of HT_.out (by kernel_rfl)) (by decide) (fun K hK => ?_)
          refine goesV_ hen2 (#[.pointer (some ⟨gx, 0, none⟩)] ++ #[]) (by rfl) rfl rfl rfl (by simp only [List.map_toArray, List.map_cons, List.map_nil]; rfl) ?_
          with_reducible refine (HO2.out _).mono ?_
          rintro e_ wc ⟨rfl, rfl⟩
          refine ⟨_, rfl, ?_⟩
          refine hK.out _ _ ⟨(by first | exact hs0 | exact cZ (lZ (Below.refl _ _) _) hs0), (by first | exact hs1 | exact cZ (lZ (Below.refl _ _) _) hs1)⟩ (fun hHeld => ?_)
          clear hK K
          refine norm_ (a' := ?_) ?_ ?_
          rotate_left
          ·show Act.put _ (some 47) _ = _
           simp only [Act.put, pn, i64_w, i32_w]
           rfl
          refine pq 6 (some 48) HT_ rfl rfl (fun _ _ _ h => h) ?_
          refine pt 7 (some 49) (v := ?_) (a' := ?_) rfl rfl (take_ofW HT_.out HW_.out (by kernel_rfl)) (fun _ _ _ h => h) (Or.inl ⟨by rfl, ?_⟩) hHeld ?_ ?_
          rotate_left; (rintro w' ⟨s0, s1⟩; go_simp; with_reducible rfl); rotate_left; (simp only [Act.put, pn, i64_w, i32_w]; rfl)
          exact norm_ (by simp only [putAll, Act.put, pn]) (hCont () _ rfl)
        ·skip
         refine value_ (w1 := ?_) (v := ?_) (by rfl) rfl ?_ ?_
         rotate_left 2
         ·go_simp
          constructor
          ·rfl
          ·rfl
         refine hK.out _ _ ⟨(by first | exact hs0 | exact cZ (lZ (Below.refl _ _) _) hs0), (by first | exact hs1 | exact cZ (lZ (Below.refl _ _) _) hs1)⟩ (fun hHeld => ?_)
         clear hK K
         refine norm_ (a' := ?_) ?_ ?_
         rotate_left
         ·show Act.put _ (some 51) _ = _
          simp only [Act.put, pn, i64_w, i32_w]
          rfl
         refine one_ (i := 2) (N := some 44) #[true, true, true, true, true, false, false, false, true, true, false, false, false] rfl rfl (one_of HT_.out (by kernel_rfl)) (by decide) (fun K hK => ?_)
         refine goesV_ hen2 (#[.pointer (some ⟨gx, 0, none⟩)] ++ #[]) (by rfl) rfl rfl rfl (by simp only [List.map_toArray, List.map_cons, List.map_nil]; rfl) ?_
         with_reducible refine (HO2.out _).mono ?_
         rintro e_ wc ⟨rfl, rfl⟩
         refine ⟨_, rfl, ?_⟩
         refine hK.out _ _ ⟨(by first | exact hs0 | exact cZ (lZ (Below.refl _ _) _) hs0), (by first | exact hs1 | exact cZ (lZ (Below.refl _ _) _) hs1)⟩ (fun hHeld => ?_)
         clear hK K
         refine norm_ (a' := ?_) ?_ ?_
         rotate_left
         ·show Act.put _ (some 44) _ = _
          simp only [Act.put, pn, i64_w, i32_w]
          rfl
         refine one_ (i := 5) (N := some 47) #[true, true, true, true, true, true, false, false, true, true, false, false, false] rfl rfl (one_of HT_.out (by kernel_rfl)) (by decide) (fun K hK => ?_)
         refine goesV_ hen2 (#[.pointer (some ⟨gx, 0, none⟩)] ++ #[]) (by rfl) rfl rfl rfl (by simp only [List.map_toArray, List.map_cons, List.map_nil]; rfl) ?_
         with_reducible refine (HO2.out _).mono ?_
         rintro e_ wc ⟨rfl, rfl⟩
         refine ⟨_, rfl, ?_⟩
         refine hK.out _ _ ⟨(by first | exact hs0 | exact cZ (lZ (Below.refl _ _) _) hs0), (by first | exact hs1 | exact cZ (lZ (Below.refl _ _) _) hs1)⟩ (fun hHeld => ?_)
         clear hK K
         refine norm_ (a' := ?_) ?_ ?_
         rotate_left
         ·show Act.put _ (some 47) _ = _
          simp only [Act.put, pn, i64_w, i32_w]
          rfl
         refine pq 6 (some 48) HT_ rfl rfl (fun _ _ _ h => h) ?_
         refine pt 7 (some 49) (v := ?_) (a' := ?_) rfl rfl (take_ofW HT_.out HW_.out (by kernel_rfl)) (fun _ _ _ h => h) (Or.inl ⟨by rfl, ?_⟩) hHeld ?_ ?_
         rotate_left; (rintro w' ⟨s0, s1⟩; go_simp; with_reducible rfl); rotate_left; (simp only [Act.put, pn, i64_w, i32_w]; rfl)
         exact norm_ (by simp only [putAll, Act.put, pn]) (hCont () _ rfl)
       rintro _ w6 hw
       replace hw : w6 = (World.alloc w5.drew (Obj.cells #[.int .i64 v] 3)) := hw
       subst hw
       have hHeld : (World.alloc w5.drew (Obj.cells #[.int .i64 v] 3)).cell? ⟨b4, 0, none⟩ = some (.func (Fn.func fo) #[] #[]) ∧ (World.alloc w5.drew (Obj.cells #[.int .i64 v] 3)).cell? ⟨gx, j, none⟩ = some (.slice Av L0 cv) := ⟨cZ (lZ (Below.refl _ _) _) hs0, cZ (lZ (Below.refl _ _) _) hs1⟩
       refine norm_ (a' := ?_) ?_ ?_
       rotate_left
       ·simp only [putAll, Act.put, pn]
        rfl
       refine one_ (i := 10) (N := some 52) #[true, true, true, true, true, true, true, true, true, true, true, false, false] rfl rfl (one_of HT_.out (by kernel_rfl)) (by decide) (fun K hK => ?_)
       refine Kd.R_append_step kI (w0 := w5.drew) wI.heap.size (by rfl) (.tmp 49) (.tmp 51) 48 3 (.int .i64 0) 8 (by rfl) Tryd.underlying48 info3 (by rfl) (by decide) (by omega) (.slice Av L0 cv) xs v [.int .i64 v] (fun k => wI.heap.size ≤ k ∧ some k ≠ vo.ownBlock) (fun _ => False) (by rfl) (by rfl) ?aP (fun _ hk => hk.elim) ?aF ?aO ?aB ?aS ?aL ?_
       case aP => exact rfl
       case aF => exact fun k hk => ⟨Nat.le_trans HK5.out.1 hk, fun e => by have := HVo.out k e.symm; have : w5.heap.size ≤ k := hk; omega⟩
       case aO => exact HRv.out
       case aB => exact Below.refl _ _
       case aS => exact HK5.out.1
       case aL => have := HLx.out; omega
       intro v1 w7 ho hb hgr hat
       have F0 := Az.mk (blk_grown (show w5.drew.heap[g]? = _ from HA5.out) hgr (Kd.R_ne HRv.out (show w5.drew.heap[g]? = _ from HA5.out) (by decide)))
       have FX := Az.mk (blk_grown (show w5.drew.heap[gx]? = _ from HXb.out) hgr (Kd.R_ne HRv.out (show w5.drew.heap[gx]? = _ from HXb.out) (by decide)))
       have F4 := Az.mk (blk_grown (show w5.drew.heap[b4]? = _ from B45.out) hgr (Kd.R_ne HRv.out (show w5.drew.heap[b4]? = _ from B45.out) (by decide)))
       obtain ⟨l2, hl2⟩ : ∃ l2, l2 = xs ++ [v] := ⟨_, rfl⟩
       rw [← hl2] at ho
       obtain ⟨A6, c6, rfl⟩ := Kd.R_slice ho
       rw [hl2] at ho
       rw [List.length_append, List.length_singleton] at ho
       rw [hl2, List.length_append, List.length_singleton] at hat
       have FR := Az.mk ho
       have FB := Az.mk hb
       have FG := Az.mk hgr
       have FA := Az.mk hat
       clear ho hb hgr hat
       refine hK.out _ _ ⟨(bZ F4.out 0).trans rfl, (HCl.out _ FX.out).1⟩ (fun hHeld => ?_)
       clear hK K
       refine norm_ (a' := ?_) ?_ ?_
       rotate_left
       ·show Act.put _ (some 52) _ = _
        simp only [Act.put, pn, i64_w, i32_w]
        rfl
       refine pq 11 (some 53) HT_ rfl rfl (fun _ _ _ h => h) ?_
       refine last_ (i := 12) (N := none) #[true, true, true, true, true, true, true, true, true, true, true, true, true] rfl rfl (one_of HT_.out (by kernel_rfl)) (by decide) (fun K hK => ?_)
       have hcz := (HCl.out _ FX.out).1
       have hfz := (HCl.out _ FX.out).2
       refine skip_ (w1 := ?_) (by rfl) rfl ?_ ?_
       rotate_left
       ·go_simp
        rfl
       clear hcz hfz
       refine hK.out _ _ ?_
       clear hK K
       refine done_ (done_of HT_.out (by kernel_rfl)) ?_
       clear hHeld HT_ HW_ hs0 hs1
       have HWp : Az (Wz.heap.size ≤ wI.heap.size) := ⟨by have := HG.out; have := HGi.out; omega⟩
       have HX8 : Az (XAt wI (w7.setCell ⟨gx, j, none⟩ (.slice A6 (xs.length + 1) c6)) gx (setL x j (l ++ [v]))) := ⟨HApp.out w7 _ v (by rw [← HXs.out]; exact FR.out) FG.out FA.out⟩
       have HZ8 : Az (Below Wz.heap.size Wz (w7.setCell ⟨gx, j, none⟩ (.slice A6 (xs.length + 1) c6))) := ⟨sZ ((HZ5.out.drew).trans (FB.out.mono HWp.out)) (by have := HWp.out; have := HGx.out; omega)⟩
       have HA8 : Az (AskW (w7.setCell ⟨gx, j, none⟩ (.slice A6 (xs.length + 1) c6)) g 80 (rdR Ab bs.length cb ((p + 1 : Nat) : Int)) G A n c B locs p) := ⟨(Below.heap_setCell w7 ⟨gx, j, none⟩ _ g HNg.out).trans F0.out⟩
       have HK8 : Az (KeepBut wI (w7.setCell ⟨gx, j, none⟩ (.slice A6 (xs.length + 1) c6)) g none) := ⟨⟨by have h1 := HK5.out.1; have h2 := FB.out.size; simpa [World.setCell] using Nat.le_trans h1 h2, fun i hi hg hr => (Below.heap_setCell w7 ⟨gx, j, none⟩ _ i (fun e => by have := HGx.out; have e2 : i = gx := e; omega)).trans ((FB.out.block i hi).trans (HK5.out.2 i hi hg hr))⟩⟩
       have HR8 : Az (listR bs V (nx + 1) (q + 1) = .ok (l ++ [v])) := ⟨by rw [HSt.out, if_pos H2.out, if_pos H3.out]⟩
       obtain ⟨w8, hw8⟩ : ∃ w8, w8 = (w7.setCell ⟨gx, j, none⟩ (.slice A6 (xs.length + 1) c6)) := ⟨_, rfl⟩
       rw [← hw8] at HX8 HZ8 HA8 HK8 ⊢
       clear hw8 F0 FX F4 FR FB FG FA HRv HXb HCl HApp
       go_wp2_with fail
       go_roundw
       case rel => exact ⟨q + 1, l ++ [v], by omega, by go_num, HR8, ⟨by have := H2.out; have := HPp.out; omega⟩, ⟨p, by rw [show nx + 1 + (q + 1) = p + 1 from by have := HPp.out; omega]; exact HA8.out⟩, HX8, HZ8, HK8⟩
       case measure => simp [intOf]; omega
      ·have hcd : decide (v < V) = false := decide_eq_false h3
       refine start_ (n := 10) (S := fun w' => w'.cell? ⟨qf.block, qf.off + 2, none⟩ = some (.int .i64 V)) (ds := []) #[false, false, false, false, false, false, false, false, false, false] (by kernel_rfl) rfl rfl (hVc) (fun hHeld => ?_)
       refine with_tabW TAB_105.tab5 TAB_105.bits5 (fun HT_ HW_ => ?_)
       refine pq 0 (some 32) HT_ rfl rfl (fun _ _ _ h => h) ?_
       refine pq 1 (some 33) HT_ rfl rfl (fun _ _ _ h => h) ?_
       refine pq 2 (some 34) HT_ rfl rfl (fun _ _ _ h => h) ?_
       refine pq 3 (some 35) HT_ rfl rfl (fun _ _ _ h => h) ?_
       refine pq 4 (some 36) HT_ rfl rfl (fun _ _ _ h => h) ?_
       refine pq 5 (some 37) HT_ rfl rfl (fun _ _ _ h => h) ?_
       refine pq 6 (some 38) HT_ rfl rfl (fun _ _ _ h => h) ?_
       refine pt 7 (some 39) (v := ?_) (a' := ?_) rfl rfl (take_ofW HT_.out HW_.out (by kernel_rfl)) (fun _ _ _ h => h) (Or.inl ⟨by rfl, ?_⟩) hHeld ?_ ?_
       rotate_left; (intro w' s0; go_simp; with_reducible rfl); rotate_left; (simp only [Act.put, pn, i64_w, i32_w]; rfl)
       refine pq 8 (some 40) HT_ rfl rfl (fun _ _ _ h => h) ?_
       refine one_ (i := 9) (N := some 41) #[true, true, true, true, true, true, true, true, true, true] rfl rfl (one_of HT_.out (by kernel_rfl)) (by decide) (fun K hK => ?_)
       refine goesP_ Tryd.func42 (by kernel_rfl) rfl #[.pointer (some ⟨g, 0, none⟩), .bool false, .int .i64 13] (by rfl) rfl rfl (by simp only [List.map_toArray, List.map_cons, List.map_nil]; rfl) ?_
       with_reducible refine (must_false _ _ _ _ H4.out).mono ?_
       rintro e_ wm2 ⟨rfl, rfl⟩
       refine ⟨_, rfl, ?_⟩
       refine ⟨rfl, HZ3.out.drew, HK3.out, ?_⟩
       have HRn := Az.mk (listR_err (show listR bs V (nx + 1) (q + 1) = .error (13, ((p : Nat) : Int)) from by rw [HSt.out, if_pos H2.out, if_neg h3]) N (by omega))
       unfold takeL
       rw [if_pos H0.out, ← HVv.out, if_pos H1.out, Int.toNat_natCast, HRn.out]
     ·rw [if_neg h2]
      go_wp2_with fail
      refine ⟨rfl, HZ3.out, HK3.out, ?_⟩
      have HRn := Az.mk (listR_err (show listR bs V (nx + 1) (q + 1) = .error (11, bs.length) from by rw [HSt.out, if_neg h2]) N (by omega))
      unfold takeL
      rw [if_pos H0.out, ← HVv.out, if_pos H1.out, Int.toNat_natCast, HRn.out]
    ·obtain rfl : N = q := by omega
     go_wp2_with fail
     go_end0
     refine ⟨HZ2.out, HK2.out, ?_⟩
     unfold takeL
     rw [if_pos H0.out, ← HVv.out, if_pos H1.out, Int.toNat_natCast, HR.out]
     exact ⟨rfl, HAe.out, HX2.out⟩
  ·have e1 : ((N : Int) == W) = false := by rw [beq_eq_false_iff_ne]; exact h1
   refine start_ (n := 13) (S := fun w' => w'.cell? ⟨b5, 0, none⟩ = some (.func (Fn.func fw) #[] #[])) (ds := []) #[false, false, false, false, false, false, false, false, false, false, false, false, false] (by kernel_rfl) rfl rfl (hb5) (fun hHeld => ?_)
   refine with_tabW TAB_105.tab1 TAB_105.bits1 (fun HT_ HW_ => ?_)
   refine pq 0 (some 14) HT_ rfl rfl (fun _ _ _ h => h) ?_
   refine pq 1 (some 15) HT_ rfl rfl (fun _ _ _ h => h) ?_
   refine pq 2 (some 16) HT_ rfl rfl (fun _ _ _ h => h) ?_
   refine pq 3 (some 17) HT_ rfl rfl (fun _ _ _ h => h) ?_
   refine pq 5 (some 19) HT_ rfl rfl (fun _ _ _ h => h) ?_
   refine pq 6 (some 20) HT_ rfl rfl (fun _ _ _ h => h) ?_
   refine pq 7 (some 21) HT_ rfl rfl (fun _ _ _ h => h) ?_
   refine pq 8 (some 22) HT_ rfl rfl (fun _ _ _ h => h) ?_
   refine pq 9 (some 23) HT_ rfl rfl (fun _ _ _ h => h) ?_
   refine pt 4 (some 18) (v := ?_) (a' := ?_) rfl rfl (take_ofW HT_.out HW_.out (by kernel_rfl)) (fun _ _ _ h => h) (Or.inl ⟨by rfl, ?_⟩) hHeld ?_ ?_
   rotate_left; (intro w' s0; go_simp; with_reducible rfl); rotate_left; (simp only [Act.put, pn, i64_w, i32_w]; rfl)
   refine one_ (i := 10) (N := some 24) #[true, true, true, true, true, true, true, true, true, true, true, false, false] rfl rfl (one_of HT_.out (by kernel_rfl)) (by decide) (fun K hK => ?_)
   refine goesV_ hen (#[.pointer (some ⟨g, 0, none⟩), .pointer (some qf), .pointer (some ⟨gx, 0, none⟩)] ++ #[]) (by rfl) rfl rfl rfl (by simp only [List.map_toArray, List.map_cons, List.map_nil]; rfl) ?_
   with_reducible refine HWc.out.mono ?_
   rintro e_ wm ⟨rfl, hb⟩
   have HBm := Az.mk hb
   have H4 : Az (wm.cell? ⟨g, 4, none⟩ = some (.int .i64 nx)) := ⟨(bZ (AskW.below (w := w1.drew) HA1.out hb) 4).trans rfl⟩
   clear hb
   refine ⟨_, rfl, ?_⟩
   refine hK.out _ _ (cZ HBm.out hb5) (fun hHeld => ?_)
   clear hK K
   refine norm_ (a' := ?_) ?_ ?_
   rotate_left
   ·show Act.put _ (some 24) _ = _
    simp only [Act.put, pn, i64_w, i32_w]
    rfl
   refine pq 11 (some 25) HT_ rfl rfl (fun _ _ _ h => h) ?_
   refine one_ (i := 12) (N := some 26) #[true, true, true, true, true, true, true, true, true, true, true, true, true] rfl rfl (one_of HT_.out (by kernel_rfl)) (by decide) (fun K hK => ?_)
   refine goesP_ Tryd.func42 (by kernel_rfl) rfl #[.pointer (some ⟨g, 0, none⟩), .bool false, .int .i64 15] (by rfl) rfl rfl (by simp only [List.map_toArray, List.map_cons, List.map_nil]; rfl) ?_
   with_reducible refine (must_false _ _ _ _ H4.out).mono ?_
   rintro e_ wm2 ⟨rfl, rfl⟩
   refine ⟨_, rfl, ?_⟩
   refine ⟨rfl, HZ1.out.drew.trans (HBm.out.mono HZ1.out.size), KeepBut.trans HKp1.out (KeepBut.of_below (show Below w1.heap.size w1 wm from (below_drew (Below.refl _ _)).trans HBm.out) g none) (.inl rfl), ?_⟩
   unfold takeL
   rw [if_pos H0.out, ← HVv.out, if_neg h1]
 ·rw [if_neg h0]
  go_wp2_with fail
  refine ⟨rfl, HZ1.out, HKp1.out, ?_⟩
  unfold takeL
  rw [if_neg h0]
theorem HeadsC.keep {w w' : World} {g : Nat} {A : Option Addr} {fs : List S46} (h : HeadsC w A fs) (hk : KeepBut w w' g none) (hA : ∀ ad, A = some ad → ad.block ≠ g) : HeadsC w' A fs := fun i hi => by
 obtain ⟨ad, e, h0, h1⟩ := h i hi
 have hb : (ad.add (i * 4)).block = ad.block := by unfold Addr.add; split <;> rfl
 exact ⟨ad, e, KeepBut.cell hk h0 (by rw [hb]; exact hA ad e), KeepBut.cell hk h1 (by show (ad.add (i * 4)).block ≠ g; rw [hb]; exact hA ad e)⟩
def numX (bs : List Int) (nx : Nat) (x : S50) : S50 := setF x 4 (wrap64 (upN bs nx (tabL.getD x.f0.toNat 0).toNat (tabL.getD x.f0.toNat 0).toNat))
def takeS (G : Int) (fs : List S46) (R V m : Int) (bs : List Int) (x : S50) (nx : Nat) : PK → Except (Int × Int) (S50 × Nat)
 | .R => takeF bs nx 1 (setF x 1 (bs.getD nx 0)) (partE G fs R V m (setF x 1 (bs.getD nx 0)) .R)
 | .S => takeF bs nx 1 (setF x 2 (bs.getD nx 0)) (partE G fs R V m (setF x 2 (bs.getD nx 0)) .S)
 | .T => takeF bs nx 1 (setF x 3 (bs.getD nx 0)) (partE G fs R V m (setF x 3 (bs.getD nx 0)) .T)
 | .args => takeL bs nx (fs.getD x.f4.toNat z46).f0 V x 5
 | .rets => takeL bs nx (fs.getD x.f4.toNat z46).f1 V x 6
 | .vals => takeL bs nx R V x 5
 | pk => takeF bs nx (tabL.getD x.f0.toNat 0).toNat (numX bs nx x) (partE G fs R V m (numX bs nx x) pk)
theorem ent99 : Enters 99 := fun _ _ => enters_ Tryd.func99 (by kernel_rfl) (by kernel_rfl) _ _
theorem ent101 : Enters 101 := fun _ _ => enters_ Tryd.func101 (by kernel_rfl) (by kernel_rfl) _ _
theorem ent105 : Enters 105 := fun _ _ => enters_ Tryd.func105 (by kernel_rfl) (by kernel_rfl) _ _
set_option maxRecDepth 100000 in
set_option maxHeartbeats 4000000 in
theorem take_part (k : PK) (c0 c1 c2 c3 : Value) (op j g gx : Nat) (qf : Addr) (R V m : Int) (fs : List S46) (G : Int) (A : Option Addr) (c B : Nat) (locs at_ : Int) (Ab : Option Addr) (cb : Nat) (bs : List Int) (nx : Nat) (x : S50) (Wz wI w : World)
  (hp : PartIs wI k [c0, c1, c2, c3]) (hz : Below Wz.heap.size Wz w) (hg : Wz.heap.size ≤ g) (hgI : g < wI.heap.size) (hgx : wI.heap.size ≤ gx) (hkp : KeepBut wI w g none) (hA : AskW w g 80 (rdR Ab bs.length cb nx) G A fs.length c B locs at_) (hB : kB.C Wz Ab bs.length bs) (hnx : nx ≤ bs.length) (hby : ∀ x ∈ bs, 0 ≤ x ∧ x ≤ 255) (hX : XAt wI w gx x)
  (hx5 : x.f5.length ≤ 1000) (hx6 : x.f6.length ≤ 1000) (hqg : qf.block ≠ g) (hR : wI.cell? ⟨qf.block, qf.off + 1, none⟩ = some (.int .i64 R)) (hV : wI.cell? ⟨qf.block, qf.off + 2, none⟩ = some (.int .i64 V)) (hAI : ∃ ds, wI.heap[g]? = some (.cells ds 80 (0, 0)))
  (hF : HeadsC wI A fs) (hFg : ∀ ad, A = some ad → ad.block ≠ g) (hT : Tab Wz) (hop : x.f0 = (op : Int)) (hk : (partsOf op)[j]? = some k) (hm : mayAsk fs x k) :
  ∃ fn cap, c3 = .func (Fn.func fn) #[] cap ∧ Enters fn ∧ Calls Tryd.prog fn (#[.pointer (some ⟨g, 0, none⟩), .pointer (some qf), .pointer (some ⟨gx, 0, none⟩), .int .i64 m] ++ cap) w fun e w' => TakePost Wz wI g gx Ab cb bs G A fs.length c B locs (takeS G fs R V m bs x nx k) e w' := by
 obtain ⟨ds, hds⟩ := hAI
 have ask : ∀ (nx' : Nat) (x' : S50) (at' : Int), mayAsk fs x' k → ∃ fn cap, c1 = .func (Fn.func fn) #[] cap ∧ Enters fn ∧ ∀ w' : World, AskW w' g 80 (rdR Ab bs.length cb ((nx' : Nat) : Int)) G A fs.length c B locs at' → XAt wI w' gx x' → KeepBut wI w' g none → Calls Tryd.prog fn (#[.pointer (some ⟨g, 0, none⟩), .pointer (some qf), .pointer (some ⟨gx, 0, none⟩), .int .i64 m] ++ cap) w' fun e w'' => AskPost w' (partE G fs R V m x' k) at' e w'' := by
  intro nx' x' at' hm'
  obtain ⟨k1, a1, k2, a2, k3, a3, h1, h2, h3⟩ := fns_is hp
  refine ⟨k1, a1, h1, ?_, ?_⟩
  ·obtain ⟨A5, c5, A6, c6, hi, g5, g6⟩ := hX.ins
   obtain ⟨fn, cap, e1, he, _⟩ := ask_part k c0 c1 c2 c3 g qf ⟨gx, 0, none⟩ 80 (rdR Ab bs.length cb nx) G A c B locs at_ R V m fs x A5 c5 A6 c6 w (hp.keep hkp hds) hA (hF.keep hkp hFg) (KeepBut.cell hkp hR hqg) (KeepBut.cell hkp hV hqg) hi g5 g6 hm
   rw [h1] at e1
   injection e1 with e1 _ _
   injection e1 with e1
   rw [e1]
   exact he
  ·intro w' hA' hX' hk'
   obtain ⟨A5, c5, A6, c6, hi, g5, g6⟩ := hX'.ins
   obtain ⟨fn, cap, e1, _, hc⟩ := ask_part k c0 c1 c2 c3 g qf ⟨gx, 0, none⟩ 80 (rdR Ab bs.length cb ((nx' : Nat) : Int)) G A c B locs at' R V m fs x' A5 c5 A6 c6 w' (hp.keep hk' hds) hA' (hF.keep hk' hFg) (KeepBut.cell hk' hR hqg) (KeepBut.cell hk' hV hqg) hi g5 g6 hm'
   rw [h1] at e1
   injection e1 with e1 _ e2
   injection e1 with e1
   subst e1 e2
   exact hc
 have go : ∀ {b : Nat} {cs : Array Value} {t : TypeId}, t ≠ 80 → wI.heap[b]? = some (.cells cs t (0, 0)) → w.heap[b]? = some (.cells cs t (0, 0)) := fun ht hb => hkp.blk hb (blk_ne_ty hb hds ht) (by simp)
 have hxop : x.f0.toNat = op := by rw [hop]; exact Int.toNat_natCast op
 have var : ∀ (f i : Nat), (∀ (q : Addr) (w : World), Calls Tryd.prog f #[.pointer (some q)] w fun e w' => e = .returned (.pointer (some ⟨q.block, q.off + i, none⟩)) ∧ w = w') → (f = 69 ∧ i = 1 ∨ f = 70 ∧ i = 2 ∨ f = 71 ∧ i = 3) → ∀ mk, VarIs wI mk f [c0, c1, c2, c3] → mayAsk fs (setF x i (bs.getD nx 0)) k →
   ∃ fn cap, c3 = .func (Fn.func fn) #[] cap ∧ Enters fn ∧ Calls Tryd.prog fn (#[.pointer (some ⟨g, 0, none⟩), .pointer (some qf), .pointer (some ⟨gx, 0, none⟩), .int .i64 m] ++ cap) w fun e w' => TakePost Wz wI g gx Ab cb bs G A fs.length c B locs (takeF bs nx 1 (setF x i (bs.getD nx 0)) (partE G fs R V m (setF x i (bs.getD nx 0)) k)) e w' := by
  intro f i hof hf mk hv hmk
  obtain ⟨b1, b2, he, h1, h2⟩ := hv
  injection he with _ he
  injection he with e1 he
  injection he with _ he
  injection he with e3 _
  obtain ⟨fn, cap, e4, hen, hc⟩ := ask (nx + 1) (setF x i (bs.getD nx 0)) nx hmk
  rw [e1] at e4
  injection e4 with e4 _ e5
  injection e4 with e4
  subst e4 e5
  exact ⟨99, _, e3, ent99, take_var f i hof hf g gx b1 b2 97 #[.pointer (some ⟨b1, 0, none⟩)] ent97 qf m _ G A fs.length c B locs at_ Ab cb bs nx x Wz wI w hz hg hgI hgx hkp hA hB hnx hby hX (go (by decide) h1) (go (by decide) h2) (fun _ => hc)⟩
 have num : numK k = true → ∀ b1, c3 = .func (Fn.func 101) #[] #[.pointer (some ⟨b1, 0, none⟩)] → wI.heap[b1]? = some (.cells #[c1] 65 (0, 0)) → mayAsk fs (numX bs nx x) k →
   ∃ fn cap, c3 = .func (Fn.func fn) #[] cap ∧ Enters fn ∧ Calls Tryd.prog fn (#[.pointer (some ⟨g, 0, none⟩), .pointer (some qf), .pointer (some ⟨gx, 0, none⟩), .int .i64 m] ++ cap) w fun e w' => TakePost Wz wI g gx Ab cb bs G A fs.length c B locs (takeF bs nx (tabL.getD x.f0.toNat 0).toNat (numX bs nx x) (partE G fs R V m (numX bs nx x) k)) e w' := by
  intro hnk b1 e3 hb hmk
  have h1 := num_k hk hnk
  have h2 := tab_range op
  obtain ⟨fn, cap, e4, hen, hc⟩ := ask (nx + (tabL.getD x.f0.toNat 0).toNat) (numX bs nx x) nx hmk
  rw [e4] at hb
  rw [hxop] at hc ⊢
  have hnx' : numX bs nx x = setF x 4 (wrap64 (upN bs nx (tabL.getD op 0).toNat (tabL.getD op 0).toNat)) := by unfold numX; rw [hxop]
  rw [hnx'] at hc ⊢
  exact ⟨101, _, e3, ent101, take_num op (tabL.getD op 0).toNat (num_op hk hnk) (by omega) (by omega) g gx b1 fn cap hen qf m _ G A fs.length c B locs at_ Ab cb bs nx x Wz wI w hz hg hgI hgx hkp hA hB hnx hby hX hT hop (go (by decide) hb) (fun _ => hc)⟩
 cases k
 case R => exact var 69 1 of69 (.inl ⟨rfl, rfl⟩) 1 hp trivial
 case S => exact var 70 2 of70 (.inr (.inl ⟨rfl, rfl⟩)) 2 hp trivial
 case T => exact var 71 3 of71 (.inr (.inr ⟨rfl, rfl⟩)) 4 hp trivial
 case int =>
  obtain ⟨b1, he, h1⟩ := hp
  injection he with _ he
  injection he with e1 he
  injection he with _ he
  injection he with e3 _
  exact num rfl b1 e3 (by rw [e1]; exact h1) trivial
 case args =>
  obtain ⟨b4, b5, he, h4, h5⟩ := hp
  injection he with _ he
  injection he with _ he
  injection he with _ he
  injection he with e3 _
  obtain ⟨ad, rfl, g0, g1⟩ := callee_heads hF hm.1 hm.2
  have hb : (ad.add (x.f4.toNat * 4)).block = ad.block := by unfold Addr.add; split <;> rfl
  exact ⟨105, _, e3, ent105, take_list 81 82 5 ent82 of81 (.inl ⟨rfl, rfl⟩) g gx b4 b5 qf m _ V G (some ad) fs.length c B locs at_ Ab cb bs nx x Wz wI w hz hg hgI hgx hkp hA hB hnx hby hX hx5 hx6 hqg hV h4 h5 ⟨ds, hds⟩ (fun w' hA' hX' hk' => by
   obtain ⟨A5, c5, A6, c6, hi, _⟩ := hX'.ins
   exact want82 g qf ⟨gx, 0, none⟩ ad fs.length c x.f4 _ w' hA'.c1 hi.2.2.2.2.1 hm.1 hm.2 (KeepBut.cell hk' g0 (by rw [hb]; exact hFg ad rfl)))⟩
 case rets =>
  obtain ⟨b4, b5, he, h4, h5⟩ := hp
  injection he with _ he
  injection he with _ he
  injection he with _ he
  injection he with e3 _
  obtain ⟨ad, rfl, g0, g1⟩ := callee_heads hF hm.1 hm.2
  have hb : (ad.add (x.f4.toNat * 4)).block = ad.block := by unfold Addr.add; split <;> rfl
  exact ⟨105, _, e3, ent105, take_list 83 84 6 ent84 of83 (.inr ⟨rfl, rfl⟩) g gx b4 b5 qf m _ V G (some ad) fs.length c B locs at_ Ab cb bs nx x Wz wI w hz hg hgI hgx hkp hA hB hnx hby hX hx5 hx6 hqg hV h4 h5 ⟨ds, hds⟩ (fun w' hA' hX' hk' => by
   obtain ⟨A5, c5, A6, c6, hi, _⟩ := hX'.ins
   exact want84 g qf ⟨gx, 0, none⟩ ad fs.length c x.f4 _ w' hA'.c1 hi.2.2.2.2.1 hm.1 hm.2 (KeepBut.cell hk' g1 (by show (ad.add (x.f4.toNat * 4)).block ≠ g; rw [hb]; exact hFg ad rfl)))⟩
 case vals =>
  obtain ⟨b4, b5, he, h4, h5⟩ := hp
  injection he with _ he
  injection he with _ he
  injection he with _ he
  injection he with e3 _
  exact ⟨105, _, e3, ent105, take_list 81 85 5 ent85 of81 (.inl ⟨rfl, rfl⟩) g gx b4 b5 qf m R V G A fs.length c B locs at_ Ab cb bs nx x Wz wI w hz hg hgI hgx hkp hA hB hnx hby hX hx5 hx6 hqg hV h4 h5 ⟨ds, hds⟩ (fun w' _ _ hk' => want85 g qf ⟨gx, 0, none⟩ R w' (KeepBut.cell hk' hR hqg))⟩
 all_goals
  obtain ⟨b1, b3, b4, b5, he, h1, _⟩ := hp
  injection he with _ he
  injection he with e1 he
  injection he with _ he
  injection he with e3 _
  exact num rfl b1 e3 (by rw [e1]; exact h1) trivial
def runE {σ : Type} (step : Nat → σ → Except (Int × Int) σ) (s0 : σ) : Nat → Except (Int × Int) σ
 | 0 => .ok s0
 | n + 1 => match runE step s0 n with
  | .error e => .error e
  | .ok s => step n s
theorem runE_next {σ : Type} {step : Nat → σ → Except (Int × Int) σ} {s0 s : σ} {n : Nat} (h : runE step s0 n = .ok s) : runE step s0 (n + 1) = step n s := by
 show (match runE step s0 n with | .error e => Except.error e | .ok s => step n s) = _
 rw [h]
theorem runE_err {σ : Type} {step : Nat → σ → Except (Int × Int) σ} {s0 : σ} {q : Nat} {e : Int × Int} (h : runE step s0 q = .error e) : ∀ n, q ≤ n → runE step s0 n = .error e
 | 0, hn => by
  obtain rfl : q = 0 := by omega
  exact h
 | n + 1, hn => by
  rcases Nat.lt_or_ge n q with g | g
  ·obtain rfl : q = n + 1 := by omega
   exact h
  ·show (match runE step s0 n with | .error e => Except.error e | .ok s => step n s) = _
   rw [runE_err h n g]
theorem runE_inv {σ : Type} {step : Nat → σ → Except (Int × Int) σ} {s0 : σ} (I : Nat → σ → Prop) (h0 : I 0 s0) (hs : ∀ n s s', runE step s0 n = .ok s → I n s → step n s = .ok s' → I (n + 1) s') : ∀ n s, runE step s0 n = .ok s → I n s
 | 0, s, h => by
  injection h with h
  exact h ▸ h0
 | n + 1, s, h => by
  cases e : runE step s0 n with
  | error er =>
   rw [runE_err e (n + 1) (by omega)] at h
   cases h
  | ok s1 =>
   rw [runE_next e] at h
   exact hs n s1 s e (runE_inv I h0 hs n s1 e) h
theorem setL_0 (x : S50) (j : Nat) (l : List Int) : (setL x j l).f0 = x.f0 := by unfold setL; split <;> rfl
theorem setL_4 (x : S50) (j : Nat) (l : List Int) : (setL x j l).f4 = x.f4 := by unfold setL; split <;> rfl
theorem setL_5 (x : S50) (j : Nat) (l : List Int) : (setL x j l).f5.length ≤ x.f5.length + l.length := by
 unfold setL
 split
 ·exact Nat.le_of_eq (List.length_append ..)
 ·exact Nat.le_add_right _ _
theorem setL_6 (x : S50) (j : Nat) (l : List Int) : (setL x j l).f6.length ≤ x.f6.length + l.length := by
 unfold setL
 split
 ·exact Nat.le_add_right _ _
 ·exact Nat.le_of_eq (List.length_append ..)
theorem listR_le {bs : List Int} {V : Int} {p : Nat} : ∀ {q : Nat} {l : List Int}, listR bs V p q = .ok l → p ≤ bs.length → p + q ≤ bs.length
 | 0, l, h, hp => hp
 | q + 1, l, h, hp => by
  cases e : listR bs V p q with
  | error er =>
   rw [listR_err e (q + 1) (by omega)] at h
   cases h
  | ok l0 =>
   rw [listR_next e] at h
   split at h
   ·omega
   ·cases h
structure Taken (bs : List Int) (x : S50) (nx : Nat) (s : S50 × Nat) : Prop where
 op : s.1.f0 = x.f0
 ge : nx ≤ s.2
 le : s.2 ≤ bs.length
 l5 : s.1.f5.length ≤ x.f5.length + 255
 l6 : s.1.f6.length ≤ x.f6.length + 255
theorem takeF_ok {bs : List Int} {nx k : Nat} {x x' : S50} {er : Int} {s : S50 × Nat} (h : takeF bs nx k x' er = .ok s) (h0 : x'.f0 = x.f0) (h5 : x'.f5 = x.f5) (h6 : x'.f6 = x.f6) : Taken bs x nx s ∧ er = 0 ∧ s = (x', nx + k) := by
 unfold takeF at h
 split at h
 ·rename_i hl
  split at h
  ·rename_i he
   injection h with h
   subst h
   exact ⟨⟨h0, Nat.le_add_right _ _, hl, by rw [h5]; omega, by rw [h6]; omega⟩, he, rfl⟩
  ·cases h
 ·cases h
theorem takeL_ok {bs : List Int} {nx : Nat} {W V : Int} {x : S50} {j : Nat} {s : S50 × Nat} (hby : ∀ x ∈ bs, 0 ≤ x ∧ x ≤ 255) (h : takeL bs nx W V x j = .ok s) : Taken bs x nx s ∧ s.1.f4 = x.f4 := by
 unfold takeL at h
 split at h
 ·rename_i hl
  split at h
  ·cases e : listR bs V (nx + 1) (bs.getD nx 0).toNat with
   | error er => rw [e] at h; cases h
   | ok l =>
    rw [e] at h
    injection h with h
    subst h
    have h1 := listR_len e
    have h2 := listR_le e hl
    have h3 := byte_at hby nx
    have h5 := setL_5 x j l
    have h6 := setL_6 x j l
    exact ⟨⟨setL_0 x j l, by show nx ≤ nx + 1 + _; omega, h2, by show (setL x j l).f5.length ≤ _; omega, by show (setL x j l).f6.length ≤ _; omega⟩, setL_4 x j l⟩
  ·cases h
 ·cases h
theorem takeS_ok {G : Int} {fs : List S46} {R V m : Int} {bs : List Int} {x : S50} {nx : Nat} {pk : PK} {s : S50 × Nat} (hby : ∀ x ∈ bs, 0 ≤ x ∧ x ≤ 255) (h : takeS G fs R V m bs x nx pk = .ok s) : Taken bs x nx s := by
 cases pk <;> first
  | exact (takeL_ok hby h).1
  | exact (takeF_ok h (setF_0 _ _ _) (setF_5 _ _ _) (setF_6 _ _ _)).1
def partsR (G : Int) (fs : List S46) (R V m : Int) (bs : List Int) (op : Nat) (x0 : S50) (nx0 : Nat) : Nat → Except (Int × Int) (S50 × Nat) :=
 runE (fun j s => match (partsOf op)[j]? with | some pk => takeS G fs R V m bs s.1 s.2 pk | none => .ok s) (x0, nx0)
theorem partsR_step {G : Int} {fs : List S46} {R V m : Int} {bs : List Int} {op : Nat} {x0 : S50} {nx0 j : Nat} {s : S50 × Nat} {pk : PK} (h : partsR G fs R V m bs op x0 nx0 j = .ok s) (hk : (partsOf op)[j]? = some pk) : partsR G fs R V m bs op x0 nx0 (j + 1) = takeS G fs R V m bs s.1 s.2 pk := by
 unfold partsR at h ⊢
 rw [runE_next h]
 simp only [hk]
theorem partsR_inv {G : Int} {fs : List S46} {R V m : Int} {bs : List Int} {op : Nat} {x0 : S50} {nx0 : Nat} (hby : ∀ x ∈ bs, 0 ≤ x ∧ x ≤ 255) (h5 : x0.f5 = []) (h6 : x0.f6 = []) (hn : nx0 ≤ bs.length) : ∀ j s, partsR G fs R V m bs op x0 nx0 j = .ok s → s.1.f0 = x0.f0 ∧ nx0 ≤ s.2 ∧ s.2 ≤ bs.length ∧ s.1.f5.length ≤ 255 * j ∧ s.1.f6.length ≤ 255 * j := by
 refine runE_inv (fun j (s : S50 × Nat) => s.1.f0 = x0.f0 ∧ nx0 ≤ s.2 ∧ s.2 ≤ bs.length ∧ s.1.f5.length ≤ 255 * j ∧ s.1.f6.length ≤ 255 * j) ⟨rfl, Nat.le_refl _, hn, by show x0.f5.length ≤ _; rw [h5]; exact Nat.zero_le _, by show x0.f6.length ≤ _; rw [h6]; exact Nat.zero_le _⟩ ?_
 intro j s s' _ hI hs
 obtain ⟨i0, i1, i2, i5, i6⟩ := hI
 cases e : (partsOf op)[j]? with
 | none =>
  simp only [e] at hs
  injection hs with hs
  subst hs
  exact ⟨i0, i1, i2, by omega, by omega⟩
 | some pk =>
  simp only [e] at hs
  have t := takeS_ok hby hs
  exact ⟨t.op.trans i0, Nat.le_trans i1 t.ge, t.le, by have := t.l5; omega, by have := t.l6; omega⟩
theorem func_ok {G : Int} {fs : List S46} {R V m : Int} {bs : List Int} {x : S50} {nx : Nat} {s : S50 × Nat} (h : takeS G fs R V m bs x nx .func = .ok s) : 0 ≤ s.1.f4 ∧ s.1.f4 < fs.length := by
 obtain ⟨_, he, hs⟩ := takeF_ok (x := x) h (setF_0 _ _ _) (setF_5 _ _ _) (setF_6 _ _ _)
 subst hs
 have he2 : numE 0 fs.length 14 (numX bs nx x).f4 = 0 := he
 unfold numE at he2
 by_cases c : 0 ≤ (numX bs nx x).f4 ∧ (numX bs nx x).f4 < (fs.length : Int)
 ·exact c
 ·rw [if_neg c] at he2
  omega
theorem may_take {G : Int} {fs : List S46} {R V m : Int} {bs : List Int} {op : Nat} {x0 : S50} {nx0 : Nat} (hby : ∀ x ∈ bs, 0 ≤ x ∧ x ≤ 255) (j : Nat) (s : S50 × Nat) (pk : PK) (hop : op < 18) (h : partsR G fs R V m bs op x0 nx0 j = .ok s) (hk : (partsOf op)[j]? = some pk) : mayAsk fs s.1 pk := by
 have key : op = 11 → (j = 1 ∨ j = 2) → 0 ≤ s.1.f4 ∧ s.1.f4 < fs.length := by
  intro ho hj
  subst ho
  have one : ∀ s1, partsR G fs R V m bs 11 x0 nx0 1 = .ok s1 → 0 ≤ s1.1.f4 ∧ s1.1.f4 < fs.length := fun s1 h1 => by
   rw [partsR_step (pk := .func) (show partsR G fs R V m bs 11 x0 nx0 0 = .ok (x0, nx0) from rfl) rfl] at h1
   exact func_ok h1
  rcases hj with rfl | rfl
  ·exact one s h
  ·cases e : partsR G fs R V m bs 11 x0 nx0 1 with
   | error er =>
    rw [show partsR G fs R V m bs 11 x0 nx0 2 = .error er from runE_err e 2 (by omega)] at h
    cases h
   | ok s1 =>
    rw [partsR_step (pk := .args) e rfl] at h
    have h4 := (takeL_ok hby (show takeL bs s1.2 _ V s1.1 5 = .ok s from h)).2
    rw [h4]
    exact one s1 e
 cases pk <;> first
  | trivial
  | (refine key ?_ ?_ <;> (unfold partsOf at hk; rcases op with _ | _ | _ | _ | _ | _ | _ | _ | _ | _ | _ | _ | _ | _ | _ | _ | _ | _ | op <;> first | omega | (rcases j with _ | _ | _ | j <;> first | omega | (simp at hk; done))))
def TAB_47.T3 : Bool × List (List Nat × List Nat) := (true, [([], []), ([0], [0]), ([1], [1]), ([2], [2]), ([3], [3]), ([], []), ([5], [5]), ([4, 6], [4, 6]), ([7], [7]), ([8], [8]), ([], [])])
def TAB_47.B3 : List Nat := [0, 1, 3, 7, 15, 0, 32, 127, 255, 511, 0]
theorem TAB_47.tab3 : rtab .any (opsOf Tryd.f47 3) = TAB_47.T3 := by kernel_rfl
theorem TAB_47.bits3 : waitsOk TAB_47.T3.2 TAB_47.B3 = true := by kernel_rfl
theorem parts_first (op : Nat) (h1 : 1 ≤ op) (h2 : op ≤ 17) : ∃ pk, (partsOf op)[0]? = some pk := by
 unfold partsOf
 rcases op with _ | _ | _ | _ | _ | _ | _ | _ | _ | _ | _ | _ | _ | _ | _ | _ | _ | _ | op <;> first | omega | exact ⟨_, rfl⟩
theorem RowIs.ne {w : World} {b g : Nat} {ks : List PK} {ty : TypeId} {rest : List Value} {G : Int} {A : Option Addr} {n c B : Nat} {locs at_ : Int} (h : RowIs w b ks) (hk : ∃ pk, ks[0]? = some pk) (hA : AskW w g ty rest G A n c B locs at_) : b ≠ g := by
 intro e
 subst e
 obtain ⟨pk, hk⟩ := hk
 obtain ⟨c0, c1, c2, c3, hp, _, z1, _⟩ := h 0 pk hk
 obtain ⟨k1, a1, _, _, _, _, h1, _⟩ := fns_is hp
 have := hA.c1
 rw [show (⟨b, 1, none⟩ : Addr) = ⟨b, 0 * 4 + 1, none⟩ from rfl, z1, h1] at this
 cases this
theorem OpsAt.keep {w w' : World} {g : Nat} {rest : List Value} {G : Int} {A : Option Addr} {n c B : Nat} {locs at_ : Int} (h : OpsAt w B) (hk : KeepBut w w' g none) (hB : B ≠ g) (hA : AskW w g 80 rest G A n c B locs at_) : OpsAt w' B := fun op h1 h2 => by
 obtain ⟨b, hc, hr⟩ := h op h1 h2
 have hb : b ≠ g := hr.ne (parts_first op h1 h2) hA
 refine ⟨b, KeepBut.cell hk hc hB, fun j k hj => ?_⟩
 obtain ⟨c0, c1, c2, c3, hp, z0, z1, z2, z3⟩ := hr j k hj
 exact ⟨c0, c1, c2, c3, hp.keep hk hA, KeepBut.cell hk z0 hb, KeepBut.cell hk z1 hb, KeepBut.cell hk z2 hb, KeepBut.cell hk z3 hb⟩
def set7 (w : World) (g : Nat) (b0 b1 b2 b3 b4 b5 b6 : Value) : World := ((((((w.setCell ⟨g, 0, none⟩ b0).setCell ⟨g, 1, none⟩ b1).setCell ⟨g, 2, none⟩ b2).setCell ⟨g, 3, none⟩ b3).setCell ⟨g, 4, none⟩ b4).setCell ⟨g, 5, none⟩ b5).setCell ⟨g, 6, none⟩ b6
theorem set7_far (w : World) (g : Nat) (b0 b1 b2 b3 b4 b5 b6 : Value) (k : Nat) (h : k ≠ g) : (set7 w g b0 b1 b2 b3 b4 b5 b6).heap[k]? = w.heap[k]? := by
 unfold set7
 rw [Below.heap_setCell _ _ _ _ h, Below.heap_setCell _ _ _ _ h, Below.heap_setCell _ _ _ _ h, Below.heap_setCell _ _ _ _ h, Below.heap_setCell _ _ _ _ h, Below.heap_setCell _ _ _ _ h, Below.heap_setCell _ _ _ _ h]
theorem set7_at {w : World} {g : Nat} {t : TypeId} {a0 a1 a2 a3 a4 a5 a6 : Value} (h : w.heap[g]? = some (.cells #[a0, a1, a2, a3, a4, a5, a6] t (0, 0))) (b0 b1 b2 b3 b4 b5 b6 : Value) : (set7 w g b0 b1 b2 b3 b4 b5 b6).heap[g]? = some (.cells #[b0, b1, b2, b3, b4, b5, b6] t (0, 0)) := by
 have h0 : (w.setCell ⟨g, 0, none⟩ b0).heap[g]? = some (.cells #[b0, a1, a2, a3, a4, a5, a6] t (0, 0)) := (blk_set h 0 b0).trans rfl
 have h1 : ((w.setCell ⟨g, 0, none⟩ b0).setCell ⟨g, 1, none⟩ b1).heap[g]? = some (.cells #[b0, b1, a2, a3, a4, a5, a6] t (0, 0)) := (blk_set h0 1 b1).trans rfl
 have h2 : (((w.setCell ⟨g, 0, none⟩ b0).setCell ⟨g, 1, none⟩ b1).setCell ⟨g, 2, none⟩ b2).heap[g]? = some (.cells #[b0, b1, b2, a3, a4, a5, a6] t (0, 0)) := (blk_set h1 2 b2).trans rfl
 have h3 : ((((w.setCell ⟨g, 0, none⟩ b0).setCell ⟨g, 1, none⟩ b1).setCell ⟨g, 2, none⟩ b2).setCell ⟨g, 3, none⟩ b3).heap[g]? = some (.cells #[b0, b1, b2, b3, a4, a5, a6] t (0, 0)) := (blk_set h2 3 b3).trans rfl
 have h4 : (((((w.setCell ⟨g, 0, none⟩ b0).setCell ⟨g, 1, none⟩ b1).setCell ⟨g, 2, none⟩ b2).setCell ⟨g, 3, none⟩ b3).setCell ⟨g, 4, none⟩ b4).heap[g]? = some (.cells #[b0, b1, b2, b3, b4, a5, a6] t (0, 0)) := (blk_set h3 4 b4).trans rfl
 have h5 : ((((((w.setCell ⟨g, 0, none⟩ b0).setCell ⟨g, 1, none⟩ b1).setCell ⟨g, 2, none⟩ b2).setCell ⟨g, 3, none⟩ b3).setCell ⟨g, 4, none⟩ b4).setCell ⟨g, 5, none⟩ b5).heap[g]? = some (.cells #[b0, b1, b2, b3, b4, b5, a6] t (0, 0)) := (blk_set h4 5 b5).trans rfl
 have h6 : (((((((w.setCell ⟨g, 0, none⟩ b0).setCell ⟨g, 1, none⟩ b1).setCell ⟨g, 2, none⟩ b2).setCell ⟨g, 3, none⟩ b3).setCell ⟨g, 4, none⟩ b4).setCell ⟨g, 5, none⟩ b5).setCell ⟨g, 6, none⟩ b6).heap[g]? = some (.cells #[b0, b1, b2, b3, b4, b5, b6] t (0, 0)) := (blk_set h5 6 b6).trans rfl
 exact h6
theorem set7_below {w W : World} {g : Nat} (h : Below w.heap.size w W) (hg : w.heap.size ≤ g) (b0 b1 b2 b3 b4 b5 b6 : Value) : Below w.heap.size w (set7 W g b0 b1 b2 b3 b4 b5 b6) :=
 sZ (sZ (sZ (sZ (sZ (sZ (sZ h hg) hg) hg) hg) hg) hg) hg
theorem set7_keep {w W : World} {g g' : Nat} (h : KeepBut w W g none) (hg : w.heap.size ≤ g') (b0 b1 b2 b3 b4 b5 b6 : Value) : KeepBut w (set7 W g' b0 b1 b2 b3 b4 b5 b6) g none :=
 ⟨by have := h.1; simpa [set7, World.setCell] using this, fun i hi hg1 hr => (set7_far W g' b0 b1 b2 b3 b4 b5 b6 i (by omega)).trans (h.2 i hi hg1 hr)⟩
def x0Of (v : Int) : S50 := ⟨v, 0, 0, 0, 0, [], []⟩
def instrR (G : Int) (fs : List S46) (R V m : Int) (bs : List Int) (last : Bool) (nx : Nat) (locs : Int) : Except (Int × Int) (S50 × Nat × Int) :=
 if nx + 1 ≤ bs.length then
  (if opE locs (x0Of (bs.getD nx 0)) last = 0 then
   (match partsR G fs R V m bs (bs.getD nx 0).toNat (x0Of (bs.getD nx 0)) (nx + 1) (partsOf (bs.getD nx 0).toNat).length with
    | .error e => .error e
    | .ok s => .ok (s.1, s.2, locs + newL (x0Of (bs.getD nx 0))))
  else .error (opE locs (x0Of (bs.getD nx 0)) last, nx))
 else .error (11, bs.length)
def InstrPost (Wz wI : World) (g : Nat) (Ab : Option Addr) (cb : Nat) (bs : List Int) (G : Int) (A : Option Addr) (n c B : Nat) (r : Except (Int × Int) (S50 × Nat × Int)) (e : Ending) (w' : World) : Prop :=
 Below Wz.heap.size Wz w' ∧ KeepBut wI w' g none ∧ match r with
 | .error er => e = .panicked [{ v := stopV er.1 er.2, recovered := false }]
 | .ok s => (∃ v5 v6, e = .returned (.agg #[.int .i64 s.1.f0, .int .i64 s.1.f1, .int .i64 s.1.f2, .int .i64 s.1.f3, .int .i64 s.1.f4, v5, v6]) ∧ kI.R 3 w' wI.heap.size (fun k => wI.heap.size ≤ k) v5 s.1.f5 ∧ kI.R 3 w' wI.heap.size (fun k => wI.heap.size ≤ k) v6 s.1.f6) ∧ (∃ at_, AskW w' g 80 (rdR Ab bs.length cb (s.2.1 : Int)) G A n c B s.2.2 at_)
set_option maxRecDepth 100000 in
set_option maxHeartbeats 16000000 in
theorem instr_rd (g : Nat) (qf : Addr) (R V m : Int) (fs : List S46) (last : Bool) (G : Int) (A : Option Addr) (c B : Nat) (locs at_ : Int) (Ab : Option Addr) (cb : Nat) (bs : List Int) (nx : Nat) (Wz wI : World)
  (hz : Below Wz.heap.size Wz wI) (hg : Wz.heap.size ≤ g) (hA : AskW wI g 80 (rdR Ab bs.length cb nx) G A fs.length c B locs at_) (hB : kB.C Wz Ab bs.length bs) (hnx : nx ≤ bs.length) (hby : ∀ x ∈ bs, 0 ≤ x ∧ x ≤ 255) (hl0 : 0 ≤ locs) (hl1 : locs < 1048576)
  (hqg : qf.block ≠ g) (hR : wI.cell? ⟨qf.block, qf.off + 1, none⟩ = some (.int .i64 R)) (hV : wI.cell? ⟨qf.block, qf.off + 2, none⟩ = some (.int .i64 V)) (hF : HeadsC wI A fs) (hFg : ∀ ad, A = some ad → ad.block ≠ g) (hT : Tab Wz) (hO : OpsAt wI B) (hBg : B ≠ g) :
  Calls Tryd.prog 47 #[.pointer (some ⟨g, 0, none⟩), .pointer (some qf), .int .i64 m, .bool last] wI fun e w' => InstrPost Wz wI g Ab cb bs G A fs.length c B (instrR G fs R V m bs last nx locs) e w' := by
 have hgI : g < wI.heap.size := blk_lt hA
 have HN := Az.mk (fun w1 (hb : Below wI.heap.size wI w1) => number_rd g 1 (by omega) G A fs.length c B locs at_ Ab cb bs nx Wz w1 (hz.trans (hb.mono hz.size)) hg (hA.below hb) hB hnx hby)
 have HZ := Az.mk hz
 have HG := Az.mk hg
 have HGi := Az.mk hgI
 have HA := Az.mk hA
 have HBs := Az.mk hB
 have HBy := Az.mk hby
 have HL := Az.mk (And.intro hl0 hl1)
 have HQg := Az.mk hqg
 have HR := Az.mk hR
 have HV := Az.mk hV
 have HF := Az.mk hF
 have HFg := Az.mk hFg
 have HT := Az.mk hT
 have HO := Az.mk hO
 have HBg := Az.mk hBg
 have HNo := Az.mk (num_one bs nx hby)
 have hbn := byte_at hby nx
 clear hz hg hgI hA hB hnx hby hl0 hl1 hqg hR hV hF hFg hT hO hBg
 go_enter Tryd.func47, Tryd.ntmps47
 go_wp2_with fail
 have HB1 : Az (Below wI.heap.size wI (wI.alloc (.cells #[.int .i64 0, .int .i64 0, .int .i64 0, .int .i64 0, .int .i64 0, .slice none 0 0, .slice none 0 0] 50))) := ⟨lZ (Below.refl _ _) _⟩
 have BK8 : Az ((wI.alloc (.cells #[.int .i64 0, .int .i64 0, .int .i64 0, .int .i64 0, .int .i64 0, .slice none 0 0, .slice none 0 0] 50)).heap[wI.heap.size]? = some (.cells #[.int .i64 0, .int .i64 0, .int .i64 0, .int .i64 0, .int .i64 0, .slice none 0 0, .slice none 0 0] 50 (0, 0))) := ⟨blk_at _⟩
 obtain ⟨w1, hw1⟩ : ∃ w1, w1 = wI.alloc (.cells #[.int .i64 0, .int .i64 0, .int .i64 0, .int .i64 0, .int .i64 0, .slice none 0 0, .slice none 0 0] 50) := ⟨_, rfl⟩
 obtain ⟨g8, hg8⟩ : ∃ g8, g8 = wI.heap.size := ⟨_, rfl⟩
 have HG8 : Az (g ≠ g8 ∧ wI.heap.size ≤ g8) := ⟨by have := HGi.out; omega⟩
 rw [← hw1] at HB1 BK8 ⊢
 rw [← hg8] at BK8 ⊢
 clear hw1 hg8
 have HN := Az.mk (HN.out w1 HB1.out)
 have HZ := Az.mk (HZ.out.trans (HB1.out.mono HZ.out.size))
 have HGi1 : Az (g < w1.heap.size) := ⟨by have := HGi.out; have := HB1.out.size; omega⟩
 have HA := Az.mk (HA.out.below HB1.out)
 have HR := Az.mk (cZ HB1.out HR.out)
 have HV := Az.mk (cZ HB1.out HV.out)
 have HF := Az.mk (HF.out.below HB1.out)
 have HO := Az.mk (HO.out.below HB1.out)
 refine HN.out.mono ?_
 rintro e w' ⟨rfl, hA2, hZ2, hK2⟩
 have HZ2 := Az.mk hZ2
 have HK2 := Az.mk hK2
 have HKI : Az (∀ w'', KeepBut w1 w'' g none → KeepBut wI w'' g none) := ⟨fun w'' h => KeepBut.trans (KeepBut.of_below HB1.out g none) h (.inl rfl)⟩
 clear hZ2 hK2 HN
 by_cases h0 : nx + 1 ≤ bs.length
 ·have HA2 := Az.mk (hA2 h0)
  have H0 := Az.mk h0
  rw [if_pos h0, HNo.out]
  clear hA2 h0
  obtain ⟨w2, rfl⟩ : ∃ w2, w2 = w' := ⟨_, rfl⟩
  obtain ⟨v, hv⟩ : ∃ v, v = bs.getD nx 0 := ⟨_, rfl⟩
  have HVv := Az.mk hv
  rw [← hv] at hbn ⊢
  clear hv
  go_wp2_with fail
  have HB3 : Az (Below w2.heap.size w2 (w2.alloc (.cells #[.int .i64 v, .int .i64 0, .int .i64 0, .int .i64 0, .int .i64 0, .slice none 0 0, .slice none 0 0] 50))) := ⟨lZ (Below.refl _ _) _⟩
  have BK9 : Az ((w2.alloc (.cells #[.int .i64 v, .int .i64 0, .int .i64 0, .int .i64 0, .int .i64 0, .slice none 0 0, .slice none 0 0] 50)).heap[w2.heap.size]? = some (.cells #[.int .i64 v, .int .i64 0, .int .i64 0, .int .i64 0, .int .i64 0, .slice none 0 0, .slice none 0 0] 50 (0, 0))) := ⟨blk_at _⟩
  obtain ⟨w3, hw3⟩ : ∃ w3, w3 = w2.alloc (.cells #[.int .i64 v, .int .i64 0, .int .i64 0, .int .i64 0, .int .i64 0, .slice none 0 0, .slice none 0 0] 50) := ⟨_, rfl⟩
  obtain ⟨g9, hg9⟩ : ∃ g9, g9 = w2.heap.size := ⟨_, rfl⟩
  have HG9 : Az (w1.heap.size ≤ g9) := ⟨by have := HK2.out.1; omega⟩
  rw [← hw3] at HB3 BK9 ⊢
  rw [← hg9] at BK9 ⊢
  clear hw3 hg9
  have HX3 : Az (XAt w1 w3 g9 (x0Of v)) := ⟨.slice none 0 0, .slice none 0 0, BK9.out, Kd.R_nil _ _ _ _ _, Kd.R_nil _ _ _ _ _⟩
  have HA3 := Az.mk (HA2.out.below HB3.out)
  have HZ3 := Az.mk (HZ2.out.trans (HB3.out.mono HZ2.out.size))
  have HK3 : Az (KeepBut w1 w3 g none) := ⟨KeepBut.trans HK2.out (KeepBut.of_below HB3.out g none) (.inl rfl)⟩
  have HOp : Az (Calls Tryd.prog 59 #[.pointer (some ⟨g, 0, none⟩), .pointer (some ⟨g9, 0, none⟩), .bool last] w3 fun e w' => HeadPost Wz w3 g 80 (rdR Ab bs.length cb ((nx + 1 : Nat) : Int)) G A fs.length c B locs (newL (x0Of v)) nx (opE locs (x0Of v) last) e w') := ⟨by
   obtain ⟨A5, c5, A6, c6, hi, _⟩ := HX3.out.ins
   exact op_any g ⟨g9, 0, none⟩ 80 _ G A fs.length c B locs nx (x0Of v) A5 c5 A6 c6 last Wz w3 HZ3.out HG.out HA3.out HL.out.1 HL.out.2 (HO.out.keep HK3.out HBg.out HA.out) hi⟩
  clear HA2 HZ2 HK2 HB3 BK9
  refine HOp.out.mono ?_
  rintro e w' ⟨he, hok, hzw, hkp⟩
  have HZ4 := Az.mk hzw
  have HK4 : Az (KeepBut w1 w' g none) := ⟨KeepBut.trans HK3.out hkp (.inl rfl)⟩
  have HX4 := Az.mk (HX3.out.keep hkp HGi1.out HG9.out)
  obtain ⟨er, her⟩ : ∃ er, er = opE locs (x0Of v) last := ⟨_, rfl⟩
  have HEr := Az.mk her
  rw [← her] at he hok
  clear her hzw hkp HOp HX3 HA3 HZ3 HK3
  by_cases h1 : er = 0
  ·rw [if_pos h1] at he
   subst he
   have HA4 := Az.mk (hok h1)
   subst h1
   obtain ⟨o1, o2⟩ := opE_op HEr.out.symm
   replace o1 : 1 ≤ v := o1
   replace o2 : v < 18 := o2
   clear hok
   obtain ⟨w4, rfl⟩ : ∃ w4, w4 = w' := ⟨_, rfl⟩
   obtain ⟨op, rfl⟩ : ∃ op : Nat, v = (op : Int) := ⟨v.toNat, by omega⟩
   have Hop : Az (1 ≤ op ∧ op < 18) := ⟨by omega⟩
   obtain ⟨b, hrow, hRw⟩ := HO.out op (by omega) (by omega)
   have HRw := Az.mk hRw
   have Hbg : Az (b ≠ g) := ⟨hRw.ne (parts_first op (by omega) (by omega)) HA.out⟩
   have hnp := parts_le op
   obtain ⟨np, hnp0⟩ : ∃ np, np = (partsOf op).length := ⟨_, rfl⟩
   have Hnp := Az.mk hnp0
   rw [← hnp0] at hrow hnp
   replace hrow := KeepBut.cell HK4.out hrow HBg.out
   have h2 := HA4.out.c2
   have hx0 : w4.cell? ⟨g9, 0, none⟩ = some (.int .i64 (op : Int)) := by obtain ⟨_, _, hx, _⟩ := HX4.out; exact (bZ hx 0).trans rfl
   clear hRw hnp0
   go_wp2_with fail
   refine start_ (n := 11) (S := fun w' => w'.cell? ⟨g, 2, none⟩ = some (.slice (some ⟨B, 0, none⟩) 18 18) ∧ w'.cell? ⟨g9, 0, none⟩ = some (.int .i64 (op : Int)) ∧ w'.cell? ⟨B, op, none⟩ = some (.slice (some ⟨b, 0, none⟩) np np)) (ds := []) #[false, false, false, false, false, false, false, false, false, false, false] (by kernel_rfl) rfl rfl ⟨h2, hx0, hrow⟩ (fun hHeld => ?_)
   refine with_tabW TAB_47.tab3 TAB_47.bits3 (fun HT_ HW_ => ?_)
   refine pq 0 (some 20) HT_ rfl rfl (fun _ _ _ h => h) ?_
   refine pq 1 (some 21) HT_ rfl rfl (fun _ _ _ h => h) ?_
   refine pq 2 (some 22) HT_ rfl rfl (fun _ _ _ h => h) ?_
   refine pq 3 (some 23) HT_ rfl rfl (fun _ _ _ h => h) ?_
   refine pq 5 (some 25) HT_ rfl rfl (fun _ _ _ h => h) ?_
   refine pq 10 (some 30) HT_ rfl rfl (fun _ _ _ h => h) ?_
   refine pt 4 (some 24) (v := ?_) (a' := ?_) rfl rfl (take_ofW HT_.out HW_.out (by kernel_rfl)) (fun _ _ _ h => h) (Or.inl ⟨by rfl, ?_⟩) hHeld ?_ ?_
   rotate_left; (rintro w' ⟨s0, s1, s2⟩; go_simp; with_reducible rfl); rotate_left; (simp only [Act.put, pn, i64_w, i32_w]; rfl)
   refine pt 6 (some 26) (v := ?_) (a' := ?_) rfl rfl (take_ofW HT_.out HW_.out (by kernel_rfl)) (fun _ _ _ h => h) (Or.inl ⟨by rfl, ?_⟩) hHeld ?_ ?_
   rotate_left; (rintro w' ⟨s0, s1, s2⟩; go_simp; with_reducible rfl); rotate_left; (simp only [Act.put, pn, i64_w, i32_w]; rfl)
   refine pq 7 (some 27) HT_ rfl rfl (fun _ _ _ h => h) ?_
   refine pt 8 (some 28) (v := ?_) (a' := ?_) rfl rfl (take_ofW HT_.out HW_.out (by kernel_rfl)) (fun _ _ _ h => h) (Or.inl ⟨by rfl, ?_⟩) hHeld ?_ ?_
   rotate_left; (rintro w' ⟨s0, s1, s2⟩; go_simp; with_reducible rfl); rotate_left; (simp only [Act.put, pn, i64_w, i32_w]; rfl)
   refine pq 9 (some 29) HT_ rfl rfl (fun _ _ _ h => h) ?_
   refine done_ (done_of HT_.out (by kernel_rfl)) ?_
   clear hHeld HT_ HW_ h2 hx0 hrow
   have HA5 : Az (AskW w4.drew g 80 (rdR Ab bs.length cb ((nx + 1 : Nat) : Int)) G A fs.length c B (locs + newL (x0Of op)) nx) := ⟨HA4.out⟩
   have HX5 : Az (XAt w1 w4.drew g9 (x0Of op)) := ⟨HX4.out.below (below_drew (Below.refl _ _))⟩
   have HZ5 : Az (Below Wz.heap.size Wz w4.drew) := ⟨HZ4.out.drew⟩
   have HK5 : Az (KeepBut w1 w4.drew g none) := ⟨HK4.out⟩
   clear HA4 HX4 HZ4 HK4
   obtain ⟨w5, hw5⟩ : ∃ w5, w5 = w4.drew := ⟨_, rfl⟩
   rw [← hw5] at HA5 HX5 HZ5 HK5 ⊢
   clear hw5
   obtain ⟨l1, hl1⟩ : ∃ l1, l1 = locs + newL (x0Of op) := ⟨_, rfl⟩
   have HL1 := Az.mk hl1
   rw [← hl1] at HA5
   clear hl1
   have HPI : Az (∀ j s, partsR G fs R V m bs op (x0Of op) (nx + 1) j = .ok s → s.1.f0 = (op : Int) ∧ nx + 1 ≤ s.2 ∧ s.2 ≤ bs.length ∧ s.1.f5.length ≤ 255 * j ∧ s.1.f6.length ≤ 255 * j) := ⟨partsR_inv HBy.out rfl rfl H0.out⟩
   have HRes : Az (instrR G fs R V m bs last nx locs = (match partsR G fs R V m bs op (x0Of op) (nx + 1) (partsOf op).length with | .error e => .error e | .ok s => .ok (s.1, s.2, l1))) := ⟨by unfold instrR; rw [if_pos H0.out, ← HVv.out, ← HEr.out, if_pos rfl, Int.toNat_natCast, HL1.out]⟩
   clear HEr
   go_wp2_with fail
   go_loopw [30] (fun v30 w' => ∃ (j : Nat) (s : S50 × Nat), j ≤ np ∧ v30 = .int .i64 (j : Int) ∧ Az (partsR G fs R V m bs op (x0Of op) (nx + 1) j = .ok s) ∧ Az (∃ a, AskW w' g 80 (rdR Ab bs.length cb (s.2 : Int)) G A fs.length c B l1 a) ∧ Az (XAt w1 w' g9 s.1) ∧ Az (Below Wz.heap.size Wz w') ∧ Az (KeepBut w1 w' g none)) (fun i _ => np - (intOf i).toNat)
   case atStart => exact ⟨0, (x0Of op, nx + 1), Nat.zero_le _, rfl, ⟨rfl⟩, ⟨nx, HA5.out⟩, HX5, HZ5, HK5⟩
   case round =>
    obtain ⟨j, s, hj, rfl, HP, HAe, HX6, HZ6, HK6⟩ := hrel
    clear HA5 HX5 HZ5 HK5
    by_cases hlt : j < np
    ·have j0 : (0 : Int) ≤ (j : Int) := Int.natCast_nonneg j
     have j1 : (j : Int) < (np : Int) := Int.ofNat_lt.mpr hlt
     have hwp : wrap64 ((j : Int) + 1) = (j : Int) + 1 := wrap_in (by omega) (by omega)
     have hjl : j < (partsOf op).length := by rw [← Hnp.out]; exact hlt
     obtain ⟨pk, hpk⟩ : ∃ pk, (partsOf op)[j]? = some pk := ⟨_, List.getElem?_eq_getElem hjl⟩
     obtain ⟨c0, c1, c2, c3, hp, z0, z1, z2, z3⟩ := HRw.out j pk hpk
     obtain ⟨i0, i1, i2, i5, i6⟩ := HPI.out j s HP.out
     have hc0 := mask_is hp
     subst hc0
     obtain ⟨k1, a1, k2, a2, k3, a3, rfl, rfl, rfl⟩ := fns_is hp
     have HSt := Az.mk (partsR_step HP.out hpk)
     obtain ⟨w10, hw10⟩ : ∃ w10, w10 = wr.alloc (.cells #[.int .i64 (maskOf pk), .func (Fn.func k1) #[] a1, .func (Fn.func k2) #[] a2, .func (Fn.func k3) #[] a3] 69) := ⟨_, rfl⟩
     have HW10 := Az.mk hw10
     have hB10 : Below wr.heap.size wr w10 := by rw [hw10]; exact lZ (Below.refl _ _) _
     obtain ⟨a, hAa⟩ := HAe.out
     obtain ⟨fn, cap, hc3, hen, hcall⟩ := take_part pk _ _ _ _ op j g g9 qf R V m fs G A c B l1 a Ab cb bs s.2 s.1 Wz w1 w10 hp (HZ6.out.trans (hB10.mono HZ6.out.size)) HG.out HGi1.out HG9.out (KeepBut.trans HK6.out (KeepBut.of_below hB10 g none) (.inl rfl)) (hAa.below hB10) HBs.out i2 HBy.out (HX6.out.below hB10) (by have := hnp; omega) (by have := hnp; omega) HQg.out HR.out HV.out ⟨_, HA.out⟩ HF.out HFg.out HT.out i0 hpk (may_take HBy.out j s pk Hop.out.2 HP.out hpk)
     injection hc3 with hc3 _ hc4
     injection hc3 with hc3
     subst hc3 hc4
     unfold Enters at hen
     rw [← HSt.out] at hcall
     have HCl := Az.mk hcall
     replace z0 := KeepBut.cell HK6.out z0 Hbg.out
     replace z1 := KeepBut.cell HK6.out z1 Hbg.out
     replace z2 := KeepBut.cell HK6.out z2 Hbg.out
     replace z3 := KeepBut.cell HK6.out z3 Hbg.out
     clear hw10 hB10 hAa hcall hp hpk i0 i1 i2 i5 i6 HSt
     go_wp2_with fail
     rw [← HW10.out]
     refine HCl.out.mono ?_
     rintro e w' ⟨hZ, hK, hr⟩
     have HZn := Az.mk hZ
     have HKn := Az.mk hK
     clear hZ hK z0 z1 z2 z3 hen HCl
     generalize hres : partsR G fs R V m bs op (x0Of (op : Int)) (nx + 1) (j + 1) = r at hr
     cases r with
     | error er =>
      replace hr : e = .panicked [{ v := stopV er.1 er.2, recovered := false }] := hr
      subst hr
      have HRn : Az (partsR G fs R V m bs op (x0Of (op : Int)) (nx + 1) (partsOf op).length = .error er) := ⟨runE_err hres _ (by have := Hnp.out; omega)⟩
      clear hres
      go_wp2_with fail
      refine ⟨rfl, HZn.out, HKI.out _ HKn.out, ?_⟩
      rw [HRes.out, HRn.out]
     | ok s2 =>
      obtain ⟨rfl, hA, hX⟩ := hr
      have HRn := Az.mk hres
      have HAn := Az.mk hA
      have HXn := Az.mk hX
      clear hres hA hX
      go_wp2_with fail
      go_roundw
      case rel => exact ⟨j + 1, s2, by omega, by go_num, HRn, HAn, HXn, HZn, HKn⟩
      case measure => simp [intOf]; omega
    ·obtain rfl : np = j := by omega
     have HRf : Az (instrR G fs R V m bs last nx locs = .ok (s.1, s.2, l1)) := ⟨by rw [HRes.out, ← Hnp.out, HP.out]⟩
     have HB8 := Az.mk (HK6.out.blk BK8.out (fun e => HG8.out.1 e.symm) (by simp))
     obtain ⟨v5, v6, hxb, h5, h6⟩ := HX6.out
     have H5 := Az.mk h5
     have H6 := Az.mk h6
     have HXb := Az.mk hxb
     obtain ⟨A5, c5, rfl⟩ := Kd.R_slice h5
     obtain ⟨A6, c6, rfl⟩ := Kd.R_slice h6
     obtain ⟨x, hx⟩ : ∃ x, x = s.1 := ⟨_, rfl⟩
     rw [← hx] at H5 H6 HXb HRf
     clear hxb h5 h6 hlt hj hx
     obtain ⟨n5, hn5⟩ : ∃ n5, n5 = x.f5.length := ⟨_, rfl⟩
     obtain ⟨n6, hn6⟩ : ∃ n6, n6 = x.f6.length := ⟨_, rfl⟩
     rw [← hn5, ← hn6] at H5 H6 HXb
     clear hn5 hn6
     have hc0 : wr.cell? ⟨g9, 0, none⟩ = some (.int .i64 x.f0) := (bZ HXb.out 0).trans rfl
     have hc1 : wr.cell? ⟨g9, 1, none⟩ = some (.int .i64 x.f1) := (bZ HXb.out 1).trans rfl
     have hc2 : wr.cell? ⟨g9, 2, none⟩ = some (.int .i64 x.f2) := (bZ HXb.out 2).trans rfl
     have hc3 : wr.cell? ⟨g9, 3, none⟩ = some (.int .i64 x.f3) := (bZ HXb.out 3).trans rfl
     have hc4 : wr.cell? ⟨g9, 4, none⟩ = some (.int .i64 x.f4) := (bZ HXb.out 4).trans rfl
     have hc5 : wr.cell? ⟨g9, 5, none⟩ = some (.slice A5 n5 c5) := (bZ HXb.out 5).trans rfl
     have hc6 : wr.cell? ⟨g9, 6, none⟩ = some (.slice A6 n6 c6) := (bZ HXb.out 6).trans rfl
     have hd0 : wr.cell? ⟨g8, 0, none⟩ = some (.int .i64 0) := (bZ HB8.out 0).trans rfl
     have hd1 : wr.cell? ⟨g8, 1, none⟩ = some (.int .i64 0) := (bZ HB8.out 1).trans rfl
     have hd2 : wr.cell? ⟨g8, 2, none⟩ = some (.int .i64 0) := (bZ HB8.out 2).trans rfl
     have hd3 : wr.cell? ⟨g8, 3, none⟩ = some (.int .i64 0) := (bZ HB8.out 3).trans rfl
     have hd4 : wr.cell? ⟨g8, 4, none⟩ = some (.int .i64 0) := (bZ HB8.out 4).trans rfl
     have hd5 : wr.cell? ⟨g8, 5, none⟩ = some (.slice none 0 0) := (bZ HB8.out 5).trans rfl
     have hd6 : wr.cell? ⟨g8, 6, none⟩ = some (.slice none 0 0) := (bZ HB8.out 6).trans rfl
     have hf0 := fZ HB8.out 0
     have hf1 := fZ HB8.out 1
     have hf2 := fZ HB8.out 2
     have hf3 := fZ HB8.out 3
     have hf4 := fZ HB8.out 4
     have hf5 := fZ HB8.out 5
     have hf6 := fZ HB8.out 6
     go_wp2_with fail
     change bodyPost Tryd.prog Tryd.f47 _ Exit.ret _ (set7 wr g8 (.int .i64 x.f0) (.int .i64 x.f1) (.int .i64 x.f2) (.int .i64 x.f3) (.int .i64 x.f4) (.slice A5 n5 c5) (.slice A6 n6 c6))
     have HG8b : Az (g8 < w1.heap.size) := ⟨blk_lt BK8.out⟩
     have HB9 := Az.mk (set7_at HB8.out (.int .i64 x.f0) (.int .i64 x.f1) (.int .i64 x.f2) (.int .i64 x.f3) (.int .i64 x.f4) (.slice A5 n5 c5) (.slice A6 n6 c6))
     have HZ9 : Az (Below Wz.heap.size Wz (set7 wr g8 (.int .i64 x.f0) (.int .i64 x.f1) (.int .i64 x.f2) (.int .i64 x.f3) (.int .i64 x.f4) (.slice A5 n5 c5) (.slice A6 n6 c6))) := ⟨set7_below HZ6.out (by have := HG8.out.2; have := HG.out; have := HGi.out; omega) _ _ _ _ _ _ _⟩
     have HK9 : Az (KeepBut wI (set7 wr g8 (.int .i64 x.f0) (.int .i64 x.f1) (.int .i64 x.f2) (.int .i64 x.f3) (.int .i64 x.f4) (.slice A5 n5 c5) (.slice A6 n6 c6)) g none) := ⟨set7_keep (HKI.out _ HK6.out) HG8.out.2 _ _ _ _ _ _ _⟩
     have H59 : Az (kI.R 3 (set7 wr g8 (.int .i64 x.f0) (.int .i64 x.f1) (.int .i64 x.f2) (.int .i64 x.f3) (.int .i64 x.f4) (.slice A5 n5 c5) (.slice A6 n6 c6)) wI.heap.size (fun k => wI.heap.size ≤ k) (.slice A5 n5 c5) x.f5) := ⟨Kd.R_lower (Kd.R_mono (Kd.R_step H5.out (fun k hk _ => set7_far wr g8 _ _ _ _ _ _ _ k (by have := hk.1; have := HG8b.out; omega))) (fun k hk => Nat.le_trans HB1.out.size hk.1)) HB1.out.size⟩
     have H69 : Az (kI.R 3 (set7 wr g8 (.int .i64 x.f0) (.int .i64 x.f1) (.int .i64 x.f2) (.int .i64 x.f3) (.int .i64 x.f4) (.slice A5 n5 c5) (.slice A6 n6 c6)) wI.heap.size (fun k => wI.heap.size ≤ k) (.slice A6 n6 c6) x.f6) := ⟨Kd.R_lower (Kd.R_mono (Kd.R_step H6.out (fun k hk _ => set7_far wr g8 _ _ _ _ _ _ _ k (by have := hk.1; have := HG8b.out; omega))) (fun k hk => Nat.le_trans HB1.out.size hk.1)) HB1.out.size⟩
     have HA9 : Az (∃ at_, AskW (set7 wr g8 (.int .i64 x.f0) (.int .i64 x.f1) (.int .i64 x.f2) (.int .i64 x.f3) (.int .i64 x.f4) (.slice A5 n5 c5) (.slice A6 n6 c6)) g 80 (rdR Ab bs.length cb (s.2 : Int)) G A fs.length c B l1 at_) := ⟨by obtain ⟨a, ha⟩ := HAe.out; exact ⟨a, (set7_far wr g8 _ _ _ _ _ _ _ g HG8.out.1).trans ha⟩⟩
     obtain ⟨w9, hw9⟩ : ∃ w9, w9 = (set7 wr g8 (.int .i64 x.f0) (.int .i64 x.f1) (.int .i64 x.f2) (.int .i64 x.f3) (.int .i64 x.f4) (.slice A5 n5 c5) (.slice A6 n6 c6)) := ⟨_, rfl⟩
     rw [← hw9] at HB9 HZ9 HK9 H59 H69 HA9 ⊢
     clear hw9 hc0 hd0 hf0 hc1 hd1 hf1 hc2 hd2 hf2 hc3 hd3 hf3 hc4 hd4 hf4 hc5 hd5 hf5 hc6 hd6 hf6
     have hr0 : w9.cell? ⟨g8, 0, none⟩ = some (.int .i64 x.f0) := (bZ HB9.out 0).trans rfl
     have hr1 : w9.cell? ⟨g8, 1, none⟩ = some (.int .i64 x.f1) := (bZ HB9.out 1).trans rfl
     have hr2 : w9.cell? ⟨g8, 2, none⟩ = some (.int .i64 x.f2) := (bZ HB9.out 2).trans rfl
     have hr3 : w9.cell? ⟨g8, 3, none⟩ = some (.int .i64 x.f3) := (bZ HB9.out 3).trans rfl
     have hr4 : w9.cell? ⟨g8, 4, none⟩ = some (.int .i64 x.f4) := (bZ HB9.out 4).trans rfl
     have hr5 : w9.cell? ⟨g8, 5, none⟩ = some (.slice A5 n5 c5) := (bZ HB9.out 5).trans rfl
     have hr6 : w9.cell? ⟨g8, 6, none⟩ = some (.slice A6 n6 c6) := (bZ HB9.out 6).trans rfl
     have HPo : Az (InstrPost Wz wI g Ab cb bs G A fs.length c B (instrR G fs R V m bs last nx locs) (.returned (.agg #[.int .i64 x.f0, .int .i64 x.f1, .int .i64 x.f2, .int .i64 x.f3, .int .i64 x.f4, .slice A5 n5 c5, .slice A6 n6 c6])) w9) := ⟨HZ9.out, HK9.out, by rw [HRf.out]; exact ⟨⟨_, _, rfl, H59.out, H69.out⟩, HA9.out⟩⟩
     simp [bodyPost, results, Tryd.results47, go_sem, hr0, hr1, hr2, hr3, hr4, hr5, hr6]
     exact HPo.out
  ·rw [if_neg h1] at he
   subst he
   clear hok
   go_wp2_with fail
   refine ⟨rfl, HZ4.out, HKI.out _ HK4.out, ?_⟩
   unfold instrR
   rw [if_pos H0.out, ← HVv.out, ← HEr.out, if_neg h1]
 ·rw [if_neg h0]
  go_wp2_with fail
  refine ⟨rfl, HZ2.out, HKI.out _ HK2.out, ?_⟩
  unfold instrR
  rw [if_neg h0]
def TAB_41.T2 : Bool × List (List Nat × List Nat) := (true, [([], []), ([], []), ([1], [1]), ([], []), ([3], [3]), ([0, 0], [0]), ([2, 5, 0, 1, 2, 5], [2]), ([4, 6, 0, 1, 2, 3, 4, 5, 6], [4])])
def TAB_41.B2 : List Nat := [0, 0, 2, 0, 8, 1, 39, 127]
theorem TAB_41.tab2 : rtab .any (opsOf Tryd.f41 2) = TAB_41.T2 := by kernel_rfl
theorem TAB_41.bits2 : waitsOk TAB_41.T2.2 TAB_41.B2 = true := by kernel_rfl
def StoppedAt (w : World) (gp ge ga : Nat) (er at_ : Int) (w' : World) : Prop :=
 w'.heap[gp]? = some (.cells #[.int .i64 0, .slice none 0 0] 24 (0, 0)) ∧ w'.heap[ge]? = some (.cells #[.int .i64 er] 27 (0, 0)) ∧ w'.heap[ga]? = some (.cells #[.int .i64 at_] 3 (0, 0)) ∧
 ∀ Wz : World, Below Wz.heap.size Wz w → Wz.heap.size ≤ gp → Wz.heap.size ≤ ge → Wz.heap.size ≤ ga → Below Wz.heap.size Wz w'
set_option maxHeartbeats 8000000 in
set_option maxRecDepth 100000 in
theorem catchD_idle (gp ge ga : Nat) (w : World) : CallsD Tryd.prog 41 #[.pointer (some ⟨gp, 0, none⟩), .pointer (some ⟨ge, 0, none⟩), .pointer (some ⟨ga, 0, none⟩)] .returning w fun e u' w' => e = .returned (.tuple #[]) ∧ u' = .returning ∧ w' = w.alloc (.cells #[.int .i64 0, .int .i64 0] 74) := by
 have hta := assert_nil
 refine callsD_of_wpS Tryd.func41 rfl fun c₀ cs hu => ?_
 apply wpS_seq
 apply wpS_region
 simp [wpOpsS, go_sem, recoverD, hu, Tryd.ntmps41, Exit.thenS, hta]
 refine wpS_of_wp ?_
 generalize hQ : (fun e a' w' => bodyPostS Tryd.prog Tryd.f41 c₀ _ _ e a' _ w') = Q
 refine wp_tmps (T' := #[.pointer (some ⟨gp, 0, none⟩), .pointer (some ⟨ge, 0, none⟩), .pointer (some ⟨ga, 0, none⟩), .pointer (some ⟨w.heap.size, 0, none⟩), .bool false, .tuple #[.agg #[.int .i64 0, .int .i64 0], .bool false], .nilIface, .tuple #[.agg #[.int .i64 0, .int .i64 0], .bool false], .agg #[.int .i64 0, .int .i64 0], .bool false, undef, undef, undef, undef, undef, undef]) (by kernel_rfl) ?_
 go_wp2
 subst hQ
 cases c₀
 simp_all [bodyPostS, results, Tryd.results41]
set_option maxHeartbeats 8000000 in
set_option maxRecDepth 100000 in
theorem catchD_stop (gp ge ga : Nat) (x y er at_ : Int) (v : Value) (w : World) (hp : w.heap[gp]? = some (.cells #[.int .i64 x, v] 24 (0, 0))) (he : w.heap[ge]? = some (.cells #[.int .i64 y] 27 (0, 0))) (ha : ∃ z, w.heap[ga]? = some (.cells #[.int .i64 z] 3 (0, 0))) :
  CallsD Tryd.prog 41 #[.pointer (some ⟨gp, 0, none⟩), .pointer (some ⟨ge, 0, none⟩), .pointer (some ⟨ga, 0, none⟩)] (.panicking ({ v := stopV er at_, recovered := false } :: [])) w fun e u' w' => e = .returned (.tuple #[]) ∧ u' = .panicking ({ v := stopV er at_, recovered := true } :: []) ∧
   StoppedAt w gp ge ga er at_ w' := by
 have hta := assert_stop er at_
 unfold stopV at hta ⊢
 refine callsD_of_wpS Tryd.func41 rfl fun c₀ cs hu => ?_
 apply wpS_seq
 apply wpS_region
 simp [wpOpsS, go_sem, recoverD, hu, Tryd.ntmps41, Exit.thenS, hta]
 refine wpS_of_wp ?_
 generalize hQ : (fun e a' w' => bodyPostS Tryd.prog Tryd.f41 c₀ _ _ e a' _ w') = Q
 refine wp_tmps (T' := #[.pointer (some ⟨gp, 0, none⟩), .pointer (some ⟨ge, 0, none⟩), .pointer (some ⟨ga, 0, none⟩), .pointer (some ⟨w.heap.size, 0, none⟩), .bool true, .tuple #[.agg #[.int .i64 er, .int .i64 at_], .bool true], .iface 74 (.agg #[.int .i64 er, .int .i64 at_]), .tuple #[.agg #[.int .i64 er, .int .i64 at_], .bool true], .agg #[.int .i64 er, .int .i64 at_], .bool true, undef, undef, undef, undef, undef, undef]) (by kernel_rfl) ?_
 go_wp2_with fail
 obtain ⟨gs, hgs⟩ : ∃ gs, gs = w.heap.size := ⟨_, rfl⟩
 obtain ⟨wa, hwa⟩ : ∃ wa, wa = (w.alloc (.cells #[.int .i64 er, .int .i64 at_] 74)).drew := ⟨_, rfl⟩
 have hbs : wa.heap[gs]? = some (.cells #[.int .i64 er, .int .i64 at_] 74 (0, 0)) := by rw [hwa, hgs]; exact blk_at _
 have hbp : wa.heap[gp]? = some (.cells #[.int .i64 x, v] 24 (0, 0)) := by rw [hwa]; exact aZ hp _
 have hbe : wa.heap[ge]? = some (.cells #[.int .i64 y] 27 (0, 0)) := by rw [hwa]; exact aZ he _
 obtain ⟨z, ha⟩ := ha
 have hba : wa.heap[ga]? = some (.cells #[.int .i64 z] 3 (0, 0)) := by rw [hwa]; exact aZ ha _
 have nsp := blk_ne_ty hbs hbp (by decide)
 have nse := blk_ne_ty hbs hbe (by decide)
 have nep := blk_ne_ty hbe hbp (by decide)
 have nap := blk_ne_ty hba hbp (by decide)
 have nae := blk_ne_ty hba hbe (by decide)
 have HW := Az.mk hwa
 have F1s : Az (((wa.setCell ⟨gp, 0, none⟩ (.int .i64 0)).setCell ⟨gp, 1, none⟩ (.slice none 0 0)).heap[gs]? = some (.cells #[.int .i64 er, .int .i64 at_] 74 (0, 0))) := ⟨by rw [Below.heap_setCell _ _ _ _ nsp, Below.heap_setCell _ _ _ _ nsp]; exact hbs⟩
 have F1e : Az (((wa.setCell ⟨gp, 0, none⟩ (.int .i64 0)).setCell ⟨gp, 1, none⟩ (.slice none 0 0)).heap[ge]? = some (.cells #[.int .i64 y] 27 (0, 0))) := ⟨by rw [Below.heap_setCell _ _ _ _ nep, Below.heap_setCell _ _ _ _ nep]; exact hbe⟩
 have F1a : Az (((wa.setCell ⟨gp, 0, none⟩ (.int .i64 0)).setCell ⟨gp, 1, none⟩ (.slice none 0 0)).heap[ga]? = some (.cells #[.int .i64 z] 3 (0, 0))) := ⟨by rw [Below.heap_setCell _ _ _ _ nap, Below.heap_setCell _ _ _ _ nap]; exact hba⟩
 have F2s : Az ((((wa.setCell ⟨gp, 0, none⟩ (.int .i64 0)).setCell ⟨gp, 1, none⟩ (.slice none 0 0)).setCell ⟨ge, 0, none⟩ (.int .i64 er)).heap[gs]? = some (.cells #[.int .i64 er, .int .i64 at_] 74 (0, 0))) := ⟨by rw [Below.heap_setCell _ _ _ _ nse]; exact F1s.out⟩
 have F2a : Az ((((wa.setCell ⟨gp, 0, none⟩ (.int .i64 0)).setCell ⟨gp, 1, none⟩ (.slice none 0 0)).setCell ⟨ge, 0, none⟩ (.int .i64 er)).heap[ga]? = some (.cells #[.int .i64 z] 3 (0, 0))) := ⟨by rw [Below.heap_setCell _ _ _ _ nae]; exact F1a.out⟩
 have hs0 : wa.cell? ⟨gs, 0, none⟩ = some (.int .i64 er) := (bZ hbs 0).trans rfl
 have hs1 : wa.cell? ⟨gs, 1, none⟩ = some (.int .i64 at_) := (bZ hbs 1).trans rfl
 have HSt : Az (StoppedAt w gp ge ga er at_ ((((wa.setCell ⟨gp, 0, none⟩ (.int .i64 0)).setCell ⟨gp, 1, none⟩ (.slice none 0 0)).setCell ⟨ge, 0, none⟩ (.int .i64 er)).setCell ⟨ga, 0, none⟩ (.int .i64 at_))) := ⟨by
  have f1 : (wa.setCell ⟨gp, 0, none⟩ (.int .i64 0)).heap[gp]? = some (.cells #[.int .i64 0, v] 24 (0, 0)) := (blk_set hbp 0 _).trans rfl
  have f2 : ((wa.setCell ⟨gp, 0, none⟩ (.int .i64 0)).setCell ⟨gp, 1, none⟩ (.slice none 0 0)).heap[gp]? = some (.cells #[.int .i64 0, .slice none 0 0] 24 (0, 0)) := (blk_set f1 1 _).trans rfl
  have f3 : (((wa.setCell ⟨gp, 0, none⟩ (.int .i64 0)).setCell ⟨gp, 1, none⟩ (.slice none 0 0)).setCell ⟨ge, 0, none⟩ (.int .i64 er)).heap[ge]? = some (.cells #[.int .i64 er] 27 (0, 0)) := (blk_set F1e.out 0 _).trans rfl
  have n1 : gp ≠ ge := fun e => nep e.symm
  have n2 : gp ≠ ga := fun e => nap e.symm
  have n3 : ge ≠ ga := fun e => nae e.symm
  refine ⟨?_, ?_, (blk_set F2a.out 0 _).trans rfl, fun Wz hb h1 h2 h3 => sZ (sZ (sZ (sZ (by rw [hwa]; exact (hb.alloc hb.size _).drew) h1) h1) h2) h3⟩
  ·rw [Below.heap_setCell _ _ _ _ n2, Below.heap_setCell _ _ _ _ n1]; exact f2
  ·rw [Below.heap_setCell _ _ _ _ n3]; exact f3⟩
 have P0 : Az (wa.cell? ⟨gp, 0, none⟩ = some (.int .i64 x)) := ⟨(bZ hbp 0).trans rfl⟩
 have P1 : Az (wa.cell? ⟨gp, 1, none⟩ = some v) := ⟨(bZ hbp 1).trans rfl⟩
 have P2 : Az (wa.frozen? ⟨gp, 0, none⟩ = false) := ⟨fZ hbp 0⟩
 have P3 : Az (wa.frozen? ⟨gp, 1, none⟩ = false) := ⟨fZ hbp 1⟩
 have HGs := Az.mk hgs
 rw [← hgs]
 clear hwa hbs hbp hbe hba nsp nse nep nap nae hp he ha hgs
 subst hQ
 refine start_ (n := 8) (S := fun w' => w'.cell? ⟨gs, 0, none⟩ = some (.int .i64 er) ∧ w'.cell? ⟨gs, 1, none⟩ = some (.int .i64 at_)) (ds := [7]) #[false, false, false, false, false, false, false, false] (by kernel_rfl) rfl rfl ⟨(HW.out ▸ hs0), (HW.out ▸ hs1)⟩ (fun hHeld => ?_)
 refine with_tabW TAB_41.tab2 TAB_41.bits2 (fun HT_ HW_ => ?_)
 refine pq 0 (some 11) HT_ rfl rfl (fun _ _ _ h => h) ?_
 refine pq 1 (some 12) HT_ rfl rfl (fun _ _ _ h => h) ?_
 refine pq 3 (some 14) HT_ rfl rfl (fun _ _ _ h => h) ?_
 refine pt 2 (some 13) (v := ?_) (a' := ?_) rfl rfl (take_ofW HT_.out HW_.out (by kernel_rfl)) (fun _ _ _ h => h) (Or.inl ⟨by rfl, ?_⟩) hHeld ?_ ?_
 rotate_left; (rintro w' ⟨s0, s1⟩; go_simp; with_reducible rfl); rotate_left; (simp only [Act.put, pn, i64_w, i32_w]; rfl)
 refine pt 4 (some 15) (v := ?_) (a' := ?_) rfl rfl (take_ofW HT_.out HW_.out (by kernel_rfl)) (fun _ _ _ h => h) (Or.inl ⟨by rfl, ?_⟩) hHeld ?_ ?_
 rotate_left; (rintro w' ⟨s0, s1⟩; go_simp; with_reducible rfl); rotate_left; (simp only [Act.put, pn, i64_w, i32_w]; rfl)
 refine one_ (i := 5) (N := none) #[true, true, true, true, true, true, false, false] rfl rfl (one_of HT_.out (by kernel_rfl)) (by decide) (fun K hK => ?_)
 rw [← HW.out]
 have p0 := P0.out
 have p1 := P1.out
 have p2 := P2.out
 have p3 := P3.out
 refine skip_ (w1 := ?_) (by rfl) rfl ?_ ?_
 rotate_left
 ·go_simp
  rfl
 clear p0 p1 p2 p3
 refine hK.out _ _ ⟨(bZ F1s.out 0).trans rfl, (bZ F1s.out 1).trans rfl⟩ (fun hHeld => ?_)
 clear hK K
 refine one_ (i := 6) (N := none) #[true, true, true, true, true, true, true, false] rfl rfl (one_of HT_.out (by kernel_rfl)) (by decide) (fun K hK => ?_)
 have p0 : _ = some (Value.int .i64 y) := (bZ F1e.out 0).trans rfl
 have p2 := fZ F1e.out 0
 refine skip_ (w1 := ?_) (by rfl) rfl ?_ ?_
 rotate_left
 ·go_simp
  rfl
 clear p0 p2
 refine hK.out _ _ ⟨(bZ F2s.out 0).trans rfl, (bZ F2s.out 1).trans rfl⟩ (fun hHeld => ?_)
 clear hK K
 refine last_ (i := 7) (N := none) #[true, true, true, true, true, true, true, true] rfl rfl (one_of HT_.out (by kernel_rfl)) (by decide) (fun K hK => ?_)
 have p0 : _ = some (Value.int .i64 z) := (bZ F2a.out 0).trans rfl
 have p2 := fZ F2a.out 0
 refine skip_ (w1 := ?_) (by rfl) rfl ?_ ?_
 rotate_left
 ·go_simp
  rfl
 clear p0 p2
 refine hK.out _ _ ?_
 clear hK K
 refine done_ (done_of HT_.out (by kernel_rfl)) ?_
 clear hHeld HT_ HW_
 obtain ⟨wf, hwf⟩ : ∃ wf, wf = ((((wa.setCell ⟨gp, 0, none⟩ (.int .i64 0)).setCell ⟨gp, 1, none⟩ (.slice none 0 0)).setCell ⟨ge, 0, none⟩ (.int .i64 er)).setCell ⟨ga, 0, none⟩ (.int .i64 at_)) := ⟨_, rfl⟩
 rw [← hwf] at HSt ⊢
 have hst := HSt.out
 clear hwf HSt P0 P1 P2 P3 F1s F1e F1a F2s F2a HW HGs hs0 hs1 hta
 cases c₀
 simp_all [bodyPostS, results, Tryd.results41]
def magicL : List Int := [102, 117, 103, 117, 101, 1]
def headStep (bs : List Int) (q : Nat) (locs : Int) : Except (Int × Int) Int :=
 if 9 + 5 * q + 5 ≤ bs.length then (if hvE bs (9 + 5 * q) locs = 0 then .ok (locs + (hvOf bs (9 + 5 * q)).V) else .error (hvE bs (9 + 5 * q) locs, ((9 + 5 * q : Nat) : Int))) else .error (11, bs.length)
def hsOf (bs : List Int) (n : Nat) : List HV := (List.range n).map fun q => hvOf bs (9 + 5 * q)
def szOf (bs : List Int) (n : Nat) : List Int := (List.range n).map fun q => hvN bs (9 + 5 * q)
def fsOf (hs : List HV) : List S46 := hs.map fun h => ⟨h.P, h.R, h.V, []⟩
def hv0 : HV := ⟨0, 0, 0, .slice none 0 0, rfl⟩
def codeStep (G : Int) (fs : List S46) (R V m : Int) (bs : List Int) (k : Nat) (s : Nat × Int × List S50) : Except (Int × Int) (Nat × Int × List S50) :=
 match instrR G fs R V m bs ((k : Int) == m - 1) s.1 s.2.1 with
 | .error e => .error e
 | .ok t => .ok (t.2.1, t.2.2, s.2.2 ++ [t.1])
def funcStep (G : Int) (fs : List S46) (bs : List Int) (q : Nat) (s : Nat × Int × List (List S50)) : Except (Int × Int) (Nat × Int × List (List S50)) :=
 match runE (codeStep G fs (hvOf bs (9 + 5 * q)).R (hvOf bs (9 + 5 * q)).V (hvN bs (9 + 5 * q)) bs) (s.1, s.2.1, []) (hvN bs (9 + 5 * q)).toNat with
 | .error e => .error e
 | .ok t => .ok (t.1, t.2.1, s.2.2 ++ [t.2.2])
def withCode (hs : List HV) (cs : List (List S50)) : List S46 := List.zipWith (fun h c => ⟨h.P, h.R, h.V, c⟩) hs cs
def cntOf (bs : List Int) : Int := bs.getD 7 0 + bs.getD 8 0 * 256
def decR (bs : List Int) : Except (Int × Int) (Int × List S46) :=
 if bs.take 6 = magicL.take bs.length then
  (if 6 ≤ bs.length then (if 7 ≤ bs.length then (if globE (bs.getD 6 0) = 0 then (if 9 ≤ bs.length then (if funcsE (cntOf bs) = 0 then
   (match runE (headStep bs) 0 (cntOf bs).toNat with
    | .error e => .error e
    | .ok l => match runE (funcStep (bs.getD 6 0) (fsOf (hsOf bs (cntOf bs).toNat)) bs) (9 + 5 * (cntOf bs).toNat, l, []) (cntOf bs).toNat with
     | .error e => .error e
     | .ok s => if s.1 = bs.length then .ok (bs.getD 6 0, withCode (hsOf bs (cntOf bs).toNat) s.2.2) else .error (22, s.1))
   else .error (funcsE (cntOf bs), 7)) else .error (11, bs.length)) else .error (globE (bs.getD 6 0), 6)) else .error (11, bs.length)) else .error (11, bs.length))
 else .error (10, 0)
def decOut (bs : List Int) : Int × List S46 × Int × Int := match decR bs with
 | .ok r => (r.1, r.2, 0, 0)
 | .error e => (0, [], e.1, e.2)
theorem num_two (bs : List Int) (nx : Nat) (hby : ∀ x ∈ bs, 0 ≤ x ∧ x ≤ 255) : wrap64 (upN bs nx 2 2) = bs.getD nx 0 + bs.getD (nx + 1) 0 * 256 := by
 have h := upN_small bs nx 2 hby 2 (by omega)
 rw [wrap_in (by omega) (by omega)]
 show (0 * 256 + bs.getD (nx + (2 - 1 - 0)) 0) * 256 + bs.getD (nx + (2 - 1 - 1)) 0 = _
 have e : (2 : Nat) - 1 - 0 = 1 := rfl
 have e2 : (2 : Nat) - 1 - 1 = 0 := rfl
 rw [e, e2]
 simp only [Nat.add_zero]
 omega
theorem conv_bytes {w : World} {A : Option Addr} {n : Nat} {xs : List Int} (hC : kB.C w A n xs) (k c : Nat) (hk : k ≤ n) : (convert 33 9 (.slice A k c)).run Tryd.prog w = .ok (.string (strOfNums (xs.take k))) w := by
 have hl : xs.length = n := hC.1
 have hlt : (xs.take k).length = k := by rw [List.length_take]; omega
 rcases A with _ | ad
 ·have h0 : k = 0 := by
   rcases Nat.eq_zero_or_pos k with h | h
   ·exact h
   ·obtain ⟨ad, h, _⟩ := hC.2.2 (by omega)
    cases h
  subst h0
  exact run_convert_bytes_nil w 33 5 Tryd.underlying33 Tryd.underlying5 0 c 9 Tryd.underlying9
 ·have hld : (loadCells ad k).run Tryd.prog w = .ok ((xs.take k).map (Value.int .u8)).toArray w := by
   have := run_loadCells_list (P := Tryd.prog) w ad ((xs.take k).map (Value.int .u8)) (fun j v hj => by
    have hjl : j < (xs.take k).length := by
     rcases Nat.lt_or_ge j (xs.take k).length with h | h
     ·exact h
     ·rw [List.getElem?_eq_none (by rw [List.length_map]; exact h)] at hj
      cases hj
    obtain ⟨ad', e0, hx⟩ := Kd.at_int hC (j : Int) (Int.natCast_nonneg j) (by omega)
    injection e0 with e0
    subst e0
    rw [Int.toNat_natCast, rd_at xs j (by omega)] at hx
    rw [hx]
    rw [List.getElem?_map, List.getElem?_eq_getElem hjl] at hj
    injection hj with hj
    rw [← hj, List.getElem_take])
   rw [List.length_map, hlt] at this
   exact this
  rw [run_convert_bytes_string w 33 9 5 _ k c Tryd.underlying33 Tryd.underlying5 Tryd.underlying9, run_bytesToString w _ k c (xs.take k) hld, foldl_push_bytes]
  simp [strOfNums, ByteArray.empty, ByteArray.emptyWithCapacity]
  rfl
theorem u8_inj : ∀ (xs ys : List Int), (∀ x ∈ xs, 0 ≤ x ∧ x ≤ 255) → (∀ x ∈ ys, 0 ≤ x ∧ x ≤ 255) → xs.map (fun n => UInt8.ofNat n.toNat) = ys.map (fun n => UInt8.ofNat n.toNat) → xs = ys
 | [], [], _, _, _ => rfl
 | [], y :: ys, _, _, h => by simp at h
 | x :: xs, [], _, _, h => by simp at h
 | x :: xs, y :: ys, hx, hy, h => by
  rw [List.map_cons, List.map_cons] at h
  injection h with h1 h2
  have b1 := hx x List.mem_cons_self
  have b2 := hy y List.mem_cons_self
  have e := congrArg UInt8.toNat h1
  rw [UInt8.toNat_ofNat', UInt8.toNat_ofNat', Nat.mod_eq_of_lt (by omega), Nat.mod_eq_of_lt (by omega)] at e
  rw [u8_inj xs ys (fun z hz => hx z (List.mem_cons_of_mem _ hz)) (fun z hz => hy z (List.mem_cons_of_mem _ hz)) h2, show x = y by omega]
theorem magic_ext (k : Nat) (hk : k ≤ 6) : (({ data := #[102, 117, 103, 117, 101, 1] } : ByteArray).extract 0 k).data.toList = (magicL.take k).map (fun n => UInt8.ofNat n.toNat) := by
 rcases k with _ | _ | _ | _ | _ | _ | _ | k <;> first | rfl | omega
theorem magic_eq (bs : List Int) (hby : ∀ x ∈ bs, 0 ≤ x ∧ x ≤ 255) (k : Nat) (hk : k = min bs.length 6) : ((strOfNums (bs.take k)).toList == (({ data := #[102, 117, 103, 117, 101, 1] } : ByteArray).extract 0 k).toList) = decide (bs.take 6 = magicL.take bs.length) := by
 have hl : magicL.length = 6 := rfl
 have e1 : bs.take 6 = bs.take k := by
  rcases Nat.le_total bs.length 6 with h | h
  ·rw [List.take_of_length_le h, List.take_of_length_le (by omega)]
  ·rw [show k = 6 by omega]
 have e2 : magicL.take bs.length = magicL.take k := by
  rcases Nat.le_total bs.length 6 with h | h
  ·rw [show k = bs.length by omega]
  ·rw [List.take_of_length_le (by omega), List.take_of_length_le (by omega)]
 rw [ByteArray.toList_eq, ByteArray.toList_eq, strOfNums_data, magic_ext k (by omega), e1, e2]
 by_cases h : bs.take k = magicL.take k
 ·rw [h, beq_self_eq_true, decide_eq_true rfl]
 ·rw [decide_eq_false h, beq_eq_false_iff_ne]
  intro he
  exact h (u8_inj _ _ (fun x hx => hby x (List.mem_of_mem_take hx)) (fun x hx => by
   have hm := List.mem_of_mem_take hx
   simp only [magicL, List.mem_cons, List.not_mem_nil, or_false] at hm
   omega) he)
theorem hsOf_len (bs : List Int) (n : Nat) : (hsOf bs n).length = n := by unfold hsOf; rw [List.length_map, List.length_range]
theorem szOf_len (bs : List Int) (n : Nat) : (szOf bs n).length = n := by unfold szOf; rw [List.length_map, List.length_range]
theorem hsOf_next (bs : List Int) (n : Nat) : hsOf bs (n + 1) = hsOf bs n ++ [hvOf bs (9 + 5 * n)] := by unfold hsOf; rw [List.range_succ, List.map_append]; rfl
theorem szOf_next (bs : List Int) (n : Nat) : szOf bs (n + 1) = szOf bs n ++ [hvN bs (9 + 5 * n)] := by unfold szOf; rw [List.range_succ, List.map_append]; rfl
theorem heads_run {bs : List Int} (hby : ∀ x ∈ bs, 0 ≤ x ∧ x ≤ 255) : ∀ n l, runE (headStep bs) 0 n = .ok l → (0 ≤ l ∧ l < 1048576) ∧ (9 ≤ bs.length → 9 + 5 * n ≤ bs.length) ∧ ∀ i, i < n → 1 ≤ hvN bs (9 + 5 * i) ∧ hvN bs (9 + 5 * i) ≤ 4096 := by
 refine runE_inv (fun n l => (0 ≤ l ∧ l < 1048576) ∧ (9 ≤ bs.length → 9 + 5 * n ≤ bs.length) ∧ ∀ i, i < n → 1 ≤ hvN bs (9 + 5 * i) ∧ hvN bs (9 + 5 * i) ≤ 4096) ⟨by omega, fun h => h, fun i hi => by omega⟩ ?_
 intro n l l' _ hI hs
 obtain ⟨i0, i1, i2⟩ := hI
 unfold headStep at hs
 split at hs
 ·rename_i hl
  split at hs
  ·rename_i he
   injection hs with hs
   subst hs
   have hb := headE_ok (show headE l _ _ _ _ = 0 from he)
   have hV := byte_at hby (9 + 5 * n + 2)
   have hn : headB (hvOf bs (9 + 5 * n)).P (hvOf bs (9 + 5 * n)).R (hvOf bs (9 + 5 * n)).V (hvN bs (9 + 5 * n)) = true ∧ 1 ≤ hvN bs (9 + 5 * n) := by
    unfold hvE headE at he
    cases e : headB (hvOf bs (9 + 5 * n)).P (hvOf bs (9 + 5 * n)).R (hvOf bs (9 + 5 * n)).V (hvN bs (9 + 5 * n)) with
    | false => rw [e, if_neg (by decide)] at he; omega
    | true =>
     refine ⟨rfl, ?_⟩
     rw [e, if_pos rfl] at he
     by_cases c : 1 ≤ hvN bs (9 + 5 * n)
     ·exact c
     ·rw [if_neg c] at he; omega
   have hle := (head_le hn.1).2.2
   refine ⟨⟨by have : (0 : Int) ≤ (hvOf bs (9 + 5 * n)).V := hV.1; omega, hb.2⟩, fun _ => by omega, fun i hi => ?_⟩
   rcases Nat.lt_or_ge i n with g | g
   ·exact i2 i g
   ·obtain rfl : i = n := by omega
    exact ⟨hn.2, hle⟩
  ·cases hs
 ·cases hs
theorem kH_at {w : World} {base : Nat} {ok : Nat → Prop} {b N c : Nat} {hs : List HV} (h : kH.R 46 w base ok (.slice (some ⟨b, 0, none⟩) N c) hs) (i : Nat) (hi : i < N) :
  w.cell? ⟨b, i * 4, none⟩ = some (.int .i64 (hs.getD i hv0).P) ∧ w.cell? ⟨b, i * 4 + 1, none⟩ = some (.int .i64 (hs.getD i hv0).R) ∧ w.cell? ⟨b, i * 4 + 2, none⟩ = some (.int .i64 (hs.getD i hv0).V) ∧ w.cell? ⟨b, i * 4 + 3, none⟩ = some (hs.getD i hv0).c ∧ w.frozen? ⟨b, i * 4 + 3, none⟩ = false := by
 obtain ⟨cs, _, hM, hc, hf⟩ := Kd.R_elem h hv0 (i : Int) (Int.natCast_nonneg i) (by omega)
 have hM' : cs = (hs.getD i hv0).enc := hM
 subst hM'
 exact ⟨hc 0 _ rfl, hc 1 _ rfl, hc 2 _ rfl, hc 3 _ rfl, hf 3⟩
theorem kH_set {w : World} {base : Nat} {ok : Nat → Prop} {b N c : Nat} {hs : List HV} (h : kH.R 46 w base ok (.slice (some ⟨b, 0, none⟩) N c) hs) (i : Nat) (hi : i < N) (v : Value) (h1 : v.oneCell' = true) :
  kH.R 46 (w.setCell ⟨b, i * 4 + 3, none⟩ v) base ok (.slice (some ⟨b, 0, none⟩) N c) (hs.set i ⟨(hs.getD i hv0).P, (hs.getD i hv0).R, (hs.getD i hv0).V, v, h1⟩) := by
 obtain ⟨cs, hcl, hM, hc, hf⟩ := Kd.R_elem h hv0 (i : Int) (Int.natCast_nonneg i) (by omega)
 have hM' : cs = (hs.getD i hv0).enc := hM
 subst hM'
 exact (Kd.R_seg (okp := fun _ => False) h (i : Int) (Int.natCast_nonneg i) (by omega) (c := (hs.getD i hv0).enc) (seg := [v]) (j := 3) rfl hc (show 3 + 1 ≤ 4 by decide) (x' := ⟨(hs.getD i hv0).P, (hs.getD i hv0).R, (hs.getD i hv0).V, v, h1⟩) rfl (fun _ hk => hk.elim)).1
theorem fsOf_len (hs : List HV) : (fsOf hs).length = hs.length := by unfold fsOf; rw [List.length_map]
theorem fsOf_at (hs : List HV) (i : Nat) (h : i < (fsOf hs).length) : (fsOf hs)[i] = ⟨(hs.getD i hv0).P, (hs.getD i hv0).R, (hs.getD i hv0).V, []⟩ := by
 have hi : i < hs.length := by rw [← fsOf_len]; exact h
 refine (List.getElem_map (f := fun h : HV => (⟨h.P, h.R, h.V, []⟩ : S46)) (h := h)).trans ?_
 rw [List.getD_eq_getElem?_getD, List.getElem?_eq_getElem hi]
 rfl
theorem kH_heads {w : World} {base : Nat} {ok : Nat → Prop} {b N c : Nat} {hs : List HV} (h : kH.R 46 w base ok (.slice (some ⟨b, 0, none⟩) N c) hs) : HeadsC w (some ⟨b, 0, none⟩) (fsOf hs) := fun i hi => by
 have hn := (Kd.R_reads' h).1
 have hi' : i < N := by rw [hn, ← fsOf_len]; exact hi
 obtain ⟨c0, c1, _⟩ := kH_at h i hi'
 have e : (⟨b, 0, none⟩ : Addr).add (i * 4) = ⟨b, i * 4, none⟩ := by rw [Addr.add_lit, Nat.zero_add]
 rw [fsOf_at hs i hi]
 exact ⟨⟨b, 0, none⟩, rfl, by rw [e]; exact c0, by rw [e]; exact c1⟩
theorem set_getD (hs : List HV) (i j : Nat) (x : HV) (h : j ≠ i) : (hs.set i x).getD j hv0 = hs.getD j hv0 := by
 rw [List.getD_eq_getElem?_getD, List.getD_eq_getElem?_getD, List.getElem?_set_ne (fun e => h e.symm)]
theorem set_getD_self (hs : List HV) (i : Nat) (x : HV) (h : i < hs.length) : (hs.set i x).getD i hv0 = x := by
 rw [List.getD_eq_getElem?_getD, List.getElem?_set_self h]
 rfl
theorem fsOf_set (hs : List HV) (i : Nat) (v : Value) (h1 : v.oneCell' = true) : fsOf (hs.set i ⟨(hs.getD i hv0).P, (hs.getD i hv0).R, (hs.getD i hv0).V, v, h1⟩) = fsOf hs := by
 unfold fsOf
 apply List.ext_getElem?
 intro j
 rw [List.getElem?_map, List.getElem?_map]
 by_cases e : j = i
 ·subst e
  rcases Nat.lt_or_ge j hs.length with g | g
  ·rw [List.getElem?_set_self g, List.getElem?_eq_getElem g, List.getD_eq_getElem?_getD, List.getElem?_eq_getElem g]
   rfl
  ·rw [List.getElem?_eq_none (by rw [List.length_set]; exact g), List.getElem?_eq_none g]
 ·rw [List.getElem?_set_ne (fun h => e h.symm)]
def CodeQ (w : World) (base : Nat) (hs : List HV) (cs : List (List S50)) (q : Nat) (v : Value) : Prop := ∀ i, i < q → k50.R 50 w base (fun k => base ≤ k ∧ some k ≠ v.ownBlock) (hs.getD i hv0).c (cs.getD i [])
section
variable {w w' : World} {base q : Nat} {hs : List HV} {cs : List (List S50)} {v v1 : Value}
theorem CodeQ.keep {g : Nat} (h : CodeQ w base hs cs q v) (hk : KeepBut w w' g none) (hg : g < base) : CodeQ w' base hs cs q v := fun i hi => Kd.R_keep (h i hi) hk (fun k hk => by have := hk.1; omega)
theorem CodeQ.below (h : CodeQ w base hs cs q v) (hb : Below w.heap.size w w') : CodeQ w' base hs cs q v := fun i hi => Kd.R_below (h i hi) hb
theorem CodeQ.after (h : CodeQ w base hs cs q v) (hg : w.grownBy w' v.ownBlock) (hat : v1.ownBlock = v.ownBlock ∨ ∃ b, v1.ownBlock = some b ∧ w.heap.size ≤ b) : CodeQ w' base hs cs q v1 := fun i hi => Kd.R_after (h i hi) hg hat
theorem CodeQ.set {b j : Nat} {ds : Array Value} {u : Value} (h : CodeQ w base hs cs q v) (hb : w.heap[b]? = some (.cells ds 46 (0, 0))) (ht : ∀ q, q ∈ 50 :: k50.E → q ≠ 46) : CodeQ (w.setCell ⟨b, j, none⟩ u) base hs cs q v := fun i hi => Kd.R_set (h i hi) hb ht j u
theorem CodeQ.put {x : HV} (h : CodeQ w base hs cs q v) (j : Nat) (hj : q ≤ j) : CodeQ w base (hs.set j x) cs q v := fun i hi => by
 rw [set_getD hs j i x (by omega)]
 exact h i hi
theorem CodeQ.next {xs : List S50} (h : CodeQ w base hs cs q v) (hv : k50.R 50 w base (fun k => base ≤ k) v xs) (hq : (hs.getD q hv0).c = v) (hl : cs.length = q) : CodeQ w base hs (cs ++ [xs]) (q + 1) (.slice none 0 0) := fun i hi => by
 rcases Nat.lt_or_ge i q with g | g
 ·rw [show (cs ++ [xs]).getD i [] = cs.getD i [] from by rw [List.getD_eq_getElem?_getD, List.getD_eq_getElem?_getD, List.getElem?_append_left (by omega)]]
  exact Kd.R_mono (h i g) (fun k hk => ⟨hk.1, by simp [Value.ownBlock]⟩)
 ·obtain rfl : i = q := by omega
  rw [hq, show (cs ++ [xs]).getD i [] = xs from by rw [List.getD_eq_getElem?_getD, ← hl, List.getElem?_concat_length]; rfl]
  exact Kd.R_mono hv (fun k hk => ⟨hk, by simp [Value.ownBlock]⟩)
end
theorem to_prog {w : World} {base b N c : Nat} {hs : List HV} {cs : List (List S50)} (h : kH.R 46 w base (fun k => base ≤ k) (.slice (some ⟨b, 0, none⟩) N c) hs) (hc : CodeQ w base hs cs N (.slice none 0 0)) (hl : cs.length = N) : k46.R 46 w base (fun k => base ≤ k) (.slice (some ⟨b, 0, none⟩) N c) (withCode hs cs) := by
 have hn := (Kd.R_reads' h).1
 have hwl : (withCode hs cs).length = hs.length := by unfold withCode; rw [List.length_zipWith]; omega
 obtain ⟨h0, inner, ho, hr⟩ := h
 obtain ⟨cells, hcl⟩ := own_typed ho b (by simp [Value.ownBlock])
 refine ⟨h0, inner, by rw [hwl]; exact ho, by rw [hwl]; exact hr.1, fun j p hj => ?_⟩
 have hjl : j < hs.length := by
  rcases Nat.lt_or_ge j hs.length with g | g
  ·exact g
  ·rw [List.getElem?_eq_none (by rw [hwl]; exact g)] at hj
   cases hj
 have h2 := hr.2 j _ (List.getElem?_eq_getElem hjl)
 have h3 : (inner.drop (j * 4)).take 4 = hs[j].enc := h2
 have hp : p = ⟨hs[j].P, hs[j].R, hs[j].V, cs.getD j []⟩ := by
  unfold withCode at hj
  rw [List.getElem?_zipWith, List.getElem?_eq_getElem hjl, List.getElem?_eq_getElem (show j < cs.length by omega)] at hj
  injection hj with hj
  rw [← hj, List.getD_eq_getElem?_getD, List.getElem?_eq_getElem (show j < cs.length by omega)]
  rfl
 show k46.M w base _ p ((inner.drop (j * 4)).take 4)
 rw [h3, hp]
 have hrow := hc j (by omega)
 rw [List.getD_eq_getElem?_getD (l := hs), List.getElem?_eq_getElem hjl] at hrow
 exact k46_mkM w base _ ⟨hs[j].P, hs[j].R, hs[j].V, cs.getD j []⟩ (Kd.R_mono (Kd.R_types hrow hcl (by decide)) (fun k hk => ⟨hk.1.1, fun e => hk.2 (by simpa [Value.ownBlock] using e)⟩))
theorem sz_cell {w : World} {base bS N cS : Nat} {ok : Nat → Prop} {bs : List Int} (h : kI.R 3 w base ok (.slice (some ⟨bS, 0, none⟩) N cS) (szOf bs N)) (q : Nat) (hq : q < N) : w.cell? ⟨bS, q, none⟩ = some (.int .i64 (hvN bs (9 + 5 * q))) := by
 have h1 := (Kd.R_celln 0 h (q : Int) (Int.natCast_nonneg q) (by omega)).1
 rw [Int.toNat_natCast] at h1
 rw [h1]
 show some (Value.int .i64 ((szOf bs N).getD (q : Int).toNat 0)) = _
 rw [Int.toNat_natCast]
 unfold szOf
 rw [List.getD_eq_getElem?_getD, List.getElem?_map, List.getElem?_range hq]
 rfl
theorem hs_at (bs : List Int) (N q : Nat) (hq : q < N) : (hsOf bs N).getD q hv0 = hvOf bs (9 + 5 * q) := by
 unfold hsOf
 rw [List.getD_eq_getElem?_getD, List.getElem?_map, List.getElem?_range hq]
 rfl
theorem fs_heads {hs hs' : List HV} (h : fsOf hs = fsOf hs') (i : Nat) (hi : i < hs.length) (hi' : i < hs'.length) : (hs.getD i hv0).P = (hs'.getD i hv0).P ∧ (hs.getD i hv0).R = (hs'.getD i hv0).R ∧ (hs.getD i hv0).V = (hs'.getD i hv0).V := by
 have h1 := fsOf_at hs i (by rw [fsOf_len]; exact hi)
 have h2 := fsOf_at hs' i (by rw [fsOf_len]; exact hi')
 have e : (fsOf hs)[i]'(by rw [fsOf_len]; exact hi) = (fsOf hs')[i]'(by rw [fsOf_len]; exact hi') := by simp only [h]
 rw [h1, h2] at e
 injection e with a b c d
 exact ⟨a, b, c⟩
theorem instrR_ok {G : Int} {fs : List S46} {R V m : Int} {bs : List Int} {last : Bool} {nx : Nat} {locs : Int} {t : S50 × Nat × Int} (hby : ∀ x ∈ bs, 0 ≤ x ∧ x ≤ 255) (hl : 0 ≤ locs ∧ locs < 1048576) (h : instrR G fs R V m bs last nx locs = .ok t) : t.2.1 ≤ bs.length ∧ 0 ≤ t.2.2 ∧ t.2.2 < 1048576 := by
 unfold instrR at h
 split at h
 ·rename_i hle
  split at h
  ·rename_i ho
   obtain ⟨_, _, o3, o4⟩ := opE_ok hl ho
   cases e : partsR G fs R V m bs (bs.getD nx 0).toNat (x0Of (bs.getD nx 0)) (nx + 1) (partsOf (bs.getD nx 0).toNat).length with
   | error er => rw [e] at h; cases h
   | ok s =>
    rw [e] at h
    injection h with h
    subst h
    exact ⟨(partsR_inv hby rfl rfl hle _ s e).2.2.1, o3, o4⟩
  ·cases h
 ·cases h
theorem withCode_eq {hs hs' : List HV} (cs : List (List S50)) (h : fsOf hs = fsOf hs') : withCode hs cs = withCode hs' cs := by
 have hl : hs.length = hs'.length := by rw [← fsOf_len, ← fsOf_len, h]
 unfold withCode
 apply List.ext_getElem?
 intro j
 rw [List.getElem?_zipWith, List.getElem?_zipWith]
 rcases Nat.lt_or_ge j hs.length with g | g
 ·have g' : j < hs'.length := by omega
  have e := fs_heads h j g g'
  rw [List.getD_eq_getElem?_getD, List.getElem?_eq_getElem g, List.getD_eq_getElem?_getD, List.getElem?_eq_getElem g'] at e
  simp only [Option.getD_some] at e
  rw [List.getElem?_eq_getElem g, List.getElem?_eq_getElem g']
  cases cs[j]? with
  | none => rfl
  | some c => simp only [e.1, e.2.1, e.2.2]
 ·rw [List.getElem?_eq_none g, List.getElem?_eq_none (l := hs') (by omega)]
def DefQ (Q : Exit → Act → World → Prop) : Exit → Act → World → Prop
 | .normal, a, w => Q .normal a w
 | .panic ch, a, w => ∀ a' : Act, a'.defers = a.defers → (∀ i, i < 5 → a'.tmps[i]?.getD undef = a.tmps[i]?.getD undef) → Q (.panic ch) a' w
 | _, _, _ => False
theorem wp_defq {P : Program} {c : Code} {Q : Exit → Act → World → Prop} {a : Act} {w : World} (h : c.wp P (DefQ Q) a w) : c.wp P Q a w :=
 Code.wp_mono (fun e a w hq => by
  cases e
  case normal => exact hq
  case panic ch => exact hq a rfl (fun _ _ => rfl)
  all_goals exact hq.elim) h
theorem DefQ.put {Q : Exit → Act → World → Prop} {ch} {a : Act} {n : Nat} {v : Value} {w : World} (h : DefQ Q (.panic ch) (a.put (some (n + 5)) v) w) : DefQ Q (.panic ch) a w := fun a' hd ht =>
 h a' hd (fun i hi => by
  rw [ht i hi]
  show a.tmps[i]?.getD undef = (a.tmps.setIfInBounds (n + 5) v)[i]?.getD undef
  rw [Array.getElem?_setIfInBounds_ne (by omega)])
end Go.Proofs.YteonppgdmhakoaaDoor.PC
