/- What a proof of this seat needs, laid together by a program of the session's. No conditions. -/
import Derived.Test.YteonppgdmhakoaaDoorQ3
import Derived.Lib.SlBytesConst
namespace Go.Proofs.YteonppgdmhakoaaDoor.PC
open Go.RowKit Go.Proofs.YteonppgdmhakoaaDoorW.PrintWords Go.Proofs.YteonppgdmhakoaaDoorW.PrintLast Go.Proofs.YteonppgdmhakoaaDoorW.PrintMore
set_option linter.unusedVariables false
set_option linter.unusedSimpArgs false
abbrev kB : Kd Int := Kd.int .u8
def byteI (x : Int) : Int := x % 256
def Keep5 (W w' : World) : Prop := ∀ (g : Nat) (cs : Array Value) (t : TypeId) (m : Nat × Nat), t ≠ 5 → W.heap[g]? = some (Obj.cells cs t m) → w'.heap[g]? = some (Obj.cells cs t m)
theorem Keep5.refl (W : World) : Keep5 W W := fun _ _ _ _ _ h => h
theorem Keep5.trans {a b c : World} (h : Keep5 a b) (h' : Keep5 b c) : Keep5 a c := fun g cs t m ht hg => h' g cs t m ht (h g cs t m ht hg)
theorem Keep5.below {W w' : World} (h : Below W.heap.size W w') : Keep5 W w' := fun g cs t m _ hg => (h.block g (blk_lt hg)).trans hg
theorem Keep5.grown {W w' : World} {base : Nat} {ok : Nat → Prop} {v : Value} {bs : List Int} (hO : kB.R 5 W base ok v bs) (h : W.grownBy w' v.ownBlock) : Keep5 W w' := fun g cs t m ht hg => by
  obtain ⟨_, inner, ho, _⟩ := hO
  refine blk_grown hg h fun e => ?_
  obtain ⟨cells, hc⟩ := own_typed ho g e.symm
  rw [hg] at hc
  injection hc with hc
  injection hc with _ hc
  exact ht hc
def PutPost (Wz W : World) (bs more : List Int) (e : Ending) (w' : World) : Prop := ∃ v', e = .returned v' ∧ kB.R 5 w' Wz.heap.size (fun _ => True) v' (bs ++ more) ∧ Below Wz.heap.size Wz w' ∧ Keep5 W w'
set_option maxHeartbeats 8000000 in
theorem put_var (f i : Nat) (hof : ∀ (q : Addr) (w : World), Calls Tryd.prog f #[.pointer (some q)] w fun e w' => e = .returned (.pointer (some ⟨q.block, q.off + i, none⟩)) ∧ w = w') (hf : f = 69 ∨ f = 70 ∨ f = 71)
    (b1 : Nat) (qx : Addr) (x : Int) (v : Value) (bs : List Int) (Wz W : World) (hWz : Below Wz.heap.size Wz W) (hO : kB.R 5 W Wz.heap.size (fun _ => True) v bs) (hl : bs.length ≤ 100000000000000) (hx : W.cell? ⟨qx.block, qx.off + i, none⟩ = some (.int .i64 x)) (hb : W.heap[b1]? = some (.cells #[.func (Fn.func f) #[] #[]] 108 (0, 0))) :
    Calls Tryd.prog 98 #[v, .pointer (some qx), .pointer (some ⟨b1, 0, none⟩)] W fun e w' => PutPost Wz W bs [byteI x] e w' := by
  have hb0 : W.cell? ⟨b1, 0, none⟩ = some (.func (Fn.func f) #[] #[]) := (blk_cell hb 0).trans rfl
  have HC := Aside0.mk hof
  have HO := Aside0.mk hO
  have HWz := Aside0.mk hWz
  have HL : Aside0 ((bs.length + 1) * 1 ≤ 140737488355328) := ⟨by omega⟩
  obtain ⟨Av, cv, rfl⟩ := Kd.R_slice hO
  clear hof hb hO hWz hl
  rcases hf with rfl | rfl | rfl
  all_goals
    go_enter Tryd.func98, Tryd.ntmps98
    go_wp2_with (first | (go_at_call 69; refine (HC.out _ _).mono ?_; rintro e w' ⟨rfl, rfl⟩) | (go_at_call 70; refine (HC.out _ _).mono ?_; rintro e w' ⟨rfl, rfl⟩) | (go_at_call 71; refine (HC.out _ _).mono ?_; rintro e w' ⟨rfl, rfl⟩) | ((with_reducible refine gate_builtin (b := .append) (xs := #[.tmp 6, .tmp 13]) rfl ?_); at_builtin; refine Kd.R_append (Kd.int .u8) (w0 := W) Wz.heap.size rfl (.tmp 6) (.tmp 13) 33 5 (.int .u8 0) 1 rfl Tryd.underlying33 info5 rfl (by decide) (by omega) (.slice Av bs.length cv) (bs) (x % 256) [.int .u8 (x % 256)] (fun _ => True) (fun _ => False) rfl rfl ?aP (fun _ hk => hk.elim) ?aF ?aO ?aB ?aS ?aL ?_; (case aP => exact rfl); (case aB => exact Below.refl _ _); (case aF => exact (fun _ _ => trivial)); (case aO => exact HO.out); (case aS => exact HWz.out.size); (case aL => exact HL.out); intro v1 wv ho hb hg hat; have HBv := Aside0.mk (HWz.out.trans hb); have HOv := Aside0.mk ho; have HKv := Aside0.mk (Keep5.grown HO.out hg); clear ho hb hg hat))
    go_ret
    exact ⟨_, rfl, HOv.out, HBv.out, HKv.out⟩
theorem map_next (r : List Int) (k : Nat) (h : k < r.length) : (r.take (k + 1)).map byteI = (r.take k).map byteI ++ [byteI r[k]] := by
  rw [List.take_succ_eq_append_getElem h, List.map_append]
  rfl
theorem rd_at (r : List Int) (k : Nat) (h : k < r.length) : rd r (k : Int) = r[k] := by
  unfold rd
  rw [List.getD_eq_getElem?_getD]
  simp [List.getElem?_eq_getElem h]
set_option maxHeartbeats 8000000 in
theorem put_list (f i : Nat) (hof : ∀ (q : Addr) (w : World), Calls Tryd.prog f #[.pointer (some q)] w fun e w' => e = .returned (.pointer (some ⟨q.block, q.off + i, none⟩)) ∧ w = w') (hf : f = 81 ∨ f = 83)
    (b4 : Nat) (qx : Addr) (A : Option Addr) (c : Nat) (l : List Int) (v : Value) (bs : List Int) (Wz W : World) (hWz : Below Wz.heap.size Wz W) (hO : kB.R 5 W Wz.heap.size (fun _ => True) v bs) (hl : bs.length + l.length ≤ 100000000000000) (hx : Wz.cell? ⟨qx.block, qx.off + i, none⟩ = some (.slice A l.length c)) (hA : (Kd.int .i64).C Wz A l.length l) (hb : Wz.heap[b4]? = some (.cells #[.func (Fn.func f) #[] #[]] 113 (0, 0))) :
    Calls Tryd.prog 104 #[v, .pointer (some qx), .pointer (some ⟨b4, 0, none⟩)] W fun e w' => PutPost Wz W bs (byteI l.length :: l.map byteI) e w' := by
  have HX := Aside0.mk hx
  have HBk := Aside0.mk (show Wz.cell? ⟨b4, 0, none⟩ = some (.func (Fn.func f) #[] #[]) from (blk_cell hb 0).trans rfl)
  have hx0 := pw_cell_below hWz HX.out
  have hb0 := pw_cell_below hWz HBk.out
  have HC := Aside0.mk hof
  have HO := Aside0.mk hO
  have HWz := Aside0.mk hWz
  have HA := Aside0.mk hA
  have hm : l.length ≤ 9223372036854775807 := Kd.C_max hA
  have HLl := Aside0.mk hl
  have HL : Aside0 ((bs.length + 1) * 1 ≤ 140737488355328) := ⟨by omega⟩
  obtain ⟨n, hn⟩ : ∃ n, n = l.length := ⟨_, rfl⟩
  have Hn := Aside0.mk hn
  obtain ⟨Av, cv, rfl⟩ := Kd.R_slice hO
  rw [← hn] at hx0 hm HX ⊢
  clear hof hb hO hWz hl hx hA hn
  rcases hf with rfl | rfl
  all_goals
    go_enter Tryd.func104, Tryd.ntmps104
    go_wp2_with (first | (go_at_call 81; refine (HC.out _ _).mono ?_; rintro e w' ⟨rfl, rfl⟩) | (go_at_call 83; refine (HC.out _ _).mono ?_; rintro e w' ⟨rfl, rfl⟩) | ((with_reducible refine gate_builtin (b := .append) (xs := #[.tmp 8, .tmp 16]) rfl ?_); at_builtin; refine Kd.R_append (Kd.int .u8) (w0 := W) Wz.heap.size rfl (.tmp 8) (.tmp 16) 33 5 (.int .u8 0) 1 rfl Tryd.underlying33 info5 rfl (by decide) (by omega) (.slice Av bs.length cv) (bs) ((n : Int) % 256) [.int .u8 ((n : Int) % 256)] (fun _ => True) (fun _ => False) rfl rfl ?aP (fun _ hk => hk.elim) ?aF ?aO ?aB ?aS ?aL ?_; (case aP => exact rfl); (case aB => exact Below.refl _ _); (case aF => exact (fun _ _ => trivial)); (case aO => exact HO.out); (case aS => exact HWz.out.size); (case aL => exact HL.out); intro v1 wv ho hb hg hat; have HBv := Aside0.mk (HWz.out.trans hb); have HOv := Aside0.mk ho; have HKv := Aside0.mk (Keep5.grown HO.out hg); have hx1 := pw_cell_below HBv.out HX.out; have hb1 := pw_cell_below HBv.out HBk.out; clear HO HWz; clear ho hb hg hat))
    clear hx1 hb1
    go_loopw [0, 24] (fun v0 v24 w' => ∃ k : Nat, k ≤ n ∧ v24 = .int .i64 (k : Int) ∧ Aside0 (kB.R 5 w' Wz.heap.size (fun _ => True) v0 (bs ++ [byteI n] ++ (l.take k).map byteI)) ∧ Aside0 (Below Wz.heap.size Wz w') ∧ Aside0 (Keep5 W w')) (fun _ i _ => n - (intOf i).toNat)
    case atStart => exact ⟨0, Nat.zero_le _, rfl, ⟨by simpa [byteI] using HOv.out⟩, HBv, HKv⟩
    case round =>
      obtain ⟨k, hk, rfl, HO2, HB2, HK2⟩ := hrel
      clear HOv HBv HKv
      obtain ⟨E, hE⟩ : ∃ E, E = bs ++ [byteI n] ++ (l.take k).map byteI := ⟨_, rfl⟩
      have HE := Aside0.mk hE
      rw [← hE] at HO2
      clear hE
      by_cases hkt : k < n
      · have k0 : (0 : Int) ≤ k := by omega
        have k1 : (k : Int) < n := by omega
        have hwk : wrap64 ((k : Int) + 1) = (k : Int) + 1 := wrap_in (by omega) (by omega)
        have hkl : k < l.length := by rw [← Hn.out]; exact hkt
        obtain ⟨ad, e0, hrx⟩ := Kd.at_int (Kd.C_below HA.out HB2.out) (k : Int) k0 (by rw [← Hn.out]; exact k1)
        cases e0
        simp only [Int.toNat_natCast] at hrx
        rw [rd_at l k hkl] at hrx
        have HM := Aside0.mk (map_next l k hkl)
        obtain ⟨rk, hrk⟩ : ∃ rk, rk = l[k] := ⟨_, rfl⟩
        rw [← hrk] at hrx HM
        have HLn2 : Aside0 ((E.length + 1) * 1 ≤ 140737488355328) := ⟨by rw [HE.out]; simp only [List.length_append, List.length_map, List.length_take, List.length_singleton]; have := HLl.out; omega⟩
        clear hrk
        go_wp2_with ((with_reducible refine gate_builtin (b := .append) (xs := #[.tmp 28, .tmp 31]) rfl ?_); at_builtin; refine Kd.R_append (Kd.int .u8) (w0 := wr) Wz.heap.size rfl (.tmp 28) (.tmp 31) 33 5 (.int .u8 0) 1 rfl Tryd.underlying33 info5 rfl (by decide) (by omega) (u0) (E) (rk % 256) [.int .u8 (rk % 256)] (fun _ => True) (fun _ => False) rfl rfl ?aP (fun _ hk => hk.elim) ?aF ?aO ?aB ?aS ?aL ?_; (case aP => exact rfl); (case aB => exact Below.refl _ _); (case aF => exact (fun _ _ => trivial)); (case aO => exact HO2.out); (case aS => exact HB2.out.size); (case aL => exact HLn2.out); intro v1 wv ho hb hg hat; have HBv := Aside0.mk (HB2.out.trans hb); have HOv := Aside0.mk ho; have HKv := Aside0.mk (HK2.out.trans (Keep5.grown HO2.out hg)); clear ho hb hg hat)
        have HO3 : Aside0 (kB.R 5 wv Wz.heap.size (fun _ => True) v1 (bs ++ [byteI n] ++ (l.take (k + 1)).map byteI)) := ⟨by rw [HM.out, ← List.append_assoc, ← HE.out]; exact HOv.out⟩
        clear HOv
        go_roundw
        case rel => exact ⟨k + 1, by omega, by go_num, HO3, HBv, HKv⟩
        case measure => simp [intOf]; omega
      · obtain rfl : n = k := by omega
        have HE2 : Aside0 (E = bs ++ (byteI n :: l.map byteI)) := ⟨by rw [HE.out, Hn.out, List.take_of_length_le (Nat.le_refl _), List.append_assoc]; rfl⟩
        go_wp2_with fail
        go_ret
        exact ⟨_, rfl, by rw [← HE2.out]; exact HO2.out, HB2.out, HK2.out⟩
def tabL : List Int := [0, 8, 0, 0, 0, 0, 1, 1, 1, 1, 1, 2, 0, 2, 2]
def Tab (w : World) : Prop := ∀ i : Nat, i < 15 → w.cell? ⟨0, i, none⟩ = some (.int .i64 (tabL.getD i 0))
theorem Tab.below {w w' : World} (h : Tab w) (hb : Below w.heap.size w w') : Tab w' := fun i hi => pw_cell_below hb (h i hi)
theorem tab_range (i : Nat) : 0 ≤ tabL.getD i 0 ∧ tabL.getD i 0 ≤ 8 := by
  by_cases h : i < 15
  · have : ∀ i : Fin 15, 0 ≤ tabL.getD i.val 0 ∧ tabL.getD i.val 0 ≤ 8 := by decide
    exact this ⟨i, h⟩
  · rw [List.getD_eq_getElem?_getD, List.getElem?_eq_none (by show 15 ≤ i; omega)]
    decide
def numB (x : Int) (m : Nat) : List Int := (List.range m).map fun i => byteI (x / 2 ^ (8 * i))
theorem numB_len (x : Int) (m : Nat) : (numB x m).length = m := by unfold numB; simp
theorem numB_next (x : Int) (m : Nat) : numB x (m + 1) = numB x m ++ [byteI (x / 2 ^ (8 * m))] := by unfold numB; rw [List.range_succ, List.map_append]; rfl
set_option maxRecDepth 100000 in
set_option maxHeartbeats 8000000 in
theorem put_num (qx : Addr) (op : Nat) (N : Int) (v : Value) (bs : List Int) (Wz W : World) (hWz : Below Wz.heap.size Wz W) (hO : kB.R 5 W Wz.heap.size (fun _ => True) v bs) (hl : bs.length ≤ 100000000000000) (hT : Tab Wz) (hop : op < 15)
    (h0 : Wz.cell? qx = some (.int .i64 op)) (h4 : Wz.cell? ⟨qx.block, qx.off + 4, none⟩ = some (.int .i64 N)) :
    Calls Tryd.prog 100 #[v, .pointer (some qx)] W fun e w' => PutPost Wz W bs (numB N (tabL.getD op 0).toNat) e w' := by
  have HT := Aside0.mk hT
  have H4 := Aside0.mk h4
  have ht := pw_cell_below hWz (hT op hop)
  have hx0 := pw_cell_below hWz h0
  have HO := Aside0.mk hO
  have HWz := Aside0.mk hWz
  have HLl := Aside0.mk hl
  have o0 : (0 : Int) ≤ (op : Int) := by omega
  have o1 : (op : Int) < 15 := by omega
  obtain ⟨M, hM⟩ : ∃ M, M = tabL.getD op 0 := ⟨_, rfl⟩
  have hMr := tab_range op
  rw [← hM] at ht hMr
  have HM := Aside0.mk hM
  obtain ⟨m, rfl⟩ : ∃ m : Nat, M = (m : Int) := ⟨M.toNat, by omega⟩
  have hm8 : m ≤ 8 := by omega
  obtain ⟨Av, cv, rfl⟩ := Kd.R_slice hO
  clear hO hWz hl hT h0 h4 hM hMr
  go_enter Tryd.func100, Tryd.ntmps100
  go_wp2_with fail
  clear ht hx0
  go_loopw [0, 12] (fun v0 v12 w' => ∃ k : Nat, k ≤ m ∧ v12 = .int .i64 (k : Int) ∧ Aside0 (kB.R 5 w' Wz.heap.size (fun _ => True) v0 (bs ++ numB N k)) ∧ Aside0 (Below Wz.heap.size Wz w') ∧ Aside0 (Keep5 W w')) (fun _ i _ => m - (intOf i).toNat)
  case atStart => exact ⟨0, Nat.zero_le _, rfl, ⟨by simpa [numB] using HO.out⟩, HWz, ⟨Keep5.refl W⟩⟩
  case round =>
    obtain ⟨k, hk, rfl, HO2, HB2, HK2⟩ := hrel
    clear HO HWz
    obtain ⟨E, hE⟩ : ∃ E, E = bs ++ numB N k := ⟨_, rfl⟩
    have HE := Aside0.mk hE
    rw [← hE] at HO2
    clear hE
    by_cases hkt : k < m
    · have k0 : (0 : Int) ≤ k := by omega
      have k1 : (k : Int) < m := by omega
      have hwk : wrap64 ((k : Int) + 1) = (k : Int) + 1 := wrap_in (by omega) (by omega)
      have hw8 : wrap64 (8 * (k : Int)) = 8 * (k : Int) := wrap_in (by omega) (by omega)
      have h80 : (0 : Int) ≤ 8 * (k : Int) := by omega
      have h4 := pw_cell_below HB2.out H4.out
      have HLn2 : Aside0 ((E.length + 1) * 1 ≤ 140737488355328) := ⟨by rw [HE.out, List.length_append, numB_len]; have := HLl.out; omega⟩
      go_wp2_with ((with_reducible refine gate_builtin (b := .append) (xs := #[.tmp 15, .tmp 24]) rfl ?_); at_builtin; refine Kd.R_append (Kd.int .u8) (w0 := wr) Wz.heap.size rfl (.tmp 15) (.tmp 24) 33 5 (.int .u8 0) 1 rfl Tryd.underlying33 info5 rfl (by decide) (by omega) (u0) (E) (N / 2 ^ (8 * k) % 256) [.int .u8 (N / 2 ^ (8 * k) % 256)] (fun _ => True) (fun _ => False) rfl rfl ?aP (fun _ hk => hk.elim) ?aF ?aO ?aB ?aS ?aL ?_; (case aP => exact rfl); (case aB => exact Below.refl _ _); (case aF => exact (fun _ _ => trivial)); (case aO => exact HO2.out); (case aS => exact HB2.out.size); (case aL => exact HLn2.out); intro v1 wv ho hb hg hat; have HBv := Aside0.mk (HB2.out.trans hb); have HOv := Aside0.mk ho; have HKv := Aside0.mk (HK2.out.trans (Keep5.grown HO2.out hg)); clear ho hb hg hat)
      have HO3 : Aside0 (kB.R 5 wv Wz.heap.size (fun _ => True) v1 (bs ++ numB N (k + 1))) := ⟨by rw [numB_next, ← List.append_assoc, ← HE.out]; exact HOv.out⟩
      clear HOv hw8 h80 h4
      go_roundw
      case rel => exact ⟨k + 1, by omega, by go_num, HO3, HBv, HKv⟩
      case measure => simp [intOf]; omega
    · obtain rfl : m = k := by omega
      have HE2 : Aside0 (E = bs ++ numB N (tabL.getD op 0).toNat) := ⟨by rw [← HM.out, Int.toNat_natCast]; exact HE.out⟩
      go_wp2_with fail
      go_ret
      exact ⟨_, rfl, by rw [← HE2.out]; exact HO2.out, HB2.out, HK2.out⟩
end Go.Proofs.YteonppgdmhakoaaDoor.PC
namespace Go.Proofs.YteonppgdmhakoaaDoor.PC
open Go.RowKit Go.Proofs.YteonppgdmhakoaaDoorW.PrintWords Go.Proofs.YteonppgdmhakoaaDoorW.PrintLast Go.Proofs.YteonppgdmhakoaaDoorW.PrintMore
set_option linter.unusedVariables false
set_option linter.unusedSimpArgs false
def putB (x : S50) : PK → List Int
  | .R => [byteI x.f1]
  | .S => [byteI x.f2]
  | .T => [byteI x.f3]
  | .args | .vals => byteI x.f5.length :: x.f5.map byteI
  | .rets => byteI x.f6.length :: x.f6.map byteI
  | _ => numB x.f4 (tabL.getD x.f0.toNat 0).toNat
def numK : PK → Bool
  | .int | .fields | .field | .glob | .func | .jump => true
  | _ => false
theorem num_op {op j : Nat} {k : PK} (h : (partsOf op)[j]? = some k) (hn : numK k = true) : op < 15 := by
  unfold partsOf at h
  rcases op with _ | _ | _ | _ | _ | _ | _ | _ | _ | _ | _ | _ | _ | _ | _ | _ | _ | _ | op <;> first | omega | (rcases j with _ | _ | _ | j <;> simp at h <;> subst h <;> cases hn)
theorem ent98 : Enters 98 := fun _ _ => enters_ Tryd.func98 (by kernel_rfl) (by kernel_rfl) _ _
theorem ent100 : Enters 100 := fun _ _ => enters_ Tryd.func100 (by kernel_rfl) (by kernel_rfl) _ _
theorem ent104 : Enters 104 := fun _ _ => enters_ Tryd.func104 (by kernel_rfl) (by kernel_rfl) _ _
theorem put_part (k : PK) (c0 c1 c2 c3 : Value) (qx : Addr) (x : S50) (A5 : Option Addr) (c5 : Nat) (A6 : Option Addr) (c6 : Nat) (op j : Nat) (Wz : World) (hp : PartIs Wz k [c0, c1, c2, c3]) (hT : Tab Wz) (hx : InsW Wz qx x A5 c5 A6 c6) (h5 : (Kd.int .i64).C Wz A5 x.f5.length x.f5) (h6 : (Kd.int .i64).C Wz A6 x.f6.length x.f6) (hop : x.f0 = (op : Int)) (hk : (partsOf op)[j]? = some k) :
    ∃ fn cap, c2 = .func (Fn.func fn) #[] cap ∧ Enters fn ∧ ∀ (v : Value) (bs : List Int) (W : World), Below Wz.heap.size Wz W → kB.R 5 W Wz.heap.size (fun _ => True) v bs → bs.length + (putB x k).length ≤ 100000000000000 → Calls Tryd.prog fn (#[v, .pointer (some qx)] ++ cap) W fun e w' => PutPost Wz W bs (putB x k) e w' := by
  have hnum : numK k = true → ∀ (v : Value) (bs : List Int) (W : World), Below Wz.heap.size Wz W → kB.R 5 W Wz.heap.size (fun _ => True) v bs → bs.length + (putB x k).length ≤ 100000000000000 → Calls Tryd.prog 100 #[v, .pointer (some qx)] W fun e w' => PutPost Wz W bs (numB x.f4 (tabL.getD x.f0.toNat 0).toNat) e w' := by
    intro hn v bs W hW hO hl
    have e : x.f0.toNat = op := by rw [hop]; exact Int.toNat_natCast op
    rw [e]
    exact put_num qx op x.f4 v bs Wz W hW hO (by omega) hT (num_op hk hn) (by rw [← hop]; exact hx.1) hx.2.2.2.2.1
  cases k
  case R =>
    obtain ⟨b1, b2, he, h1, _⟩ := hp
    injection he with _ he; injection he with _ he; injection he with he _
    exact ⟨98, _, he, ent98, fun v bs W hW hO hl => put_var 69 1 of69 (.inl rfl) b1 qx x.f1 v bs Wz W hW hO (by omega) (pw_cell_below hW hx.2.1) (blk_below h1 hW)⟩
  case S =>
    obtain ⟨b1, b2, he, h1, _⟩ := hp
    injection he with _ he; injection he with _ he; injection he with he _
    exact ⟨98, _, he, ent98, fun v bs W hW hO hl => put_var 70 2 of70 (.inr (.inl rfl)) b1 qx x.f2 v bs Wz W hW hO (by omega) (pw_cell_below hW hx.2.2.1) (blk_below h1 hW)⟩
  case T =>
    obtain ⟨b1, b2, he, h1, _⟩ := hp
    injection he with _ he; injection he with _ he; injection he with he _
    exact ⟨98, _, he, ent98, fun v bs W hW hO hl => put_var 71 3 of71 (.inr (.inr rfl)) b1 qx x.f3 v bs Wz W hW hO (by omega) (pw_cell_below hW hx.2.2.2.1) (blk_below h1 hW)⟩
  case int =>
    obtain ⟨b1, he, h1⟩ := hp
    injection he with _ he; injection he with _ he; injection he with he _
    exact ⟨100, #[], he, ent100, hnum rfl⟩
  case args =>
    have hlen : (putB x .args).length = x.f5.length + 1 := by simp [putB]
    obtain ⟨b4, b5, he, h4, h5b⟩ := hp
    injection he with _ he; injection he with _ he; injection he with he _
    exact ⟨104, _, he, ent104, fun v bs W hW hO hl => put_list 81 5 of81 (.inl rfl) b4 qx A5 c5 x.f5 v bs Wz W hW hO (by omega) hx.2.2.2.2.2.1 h5 h4⟩
  case vals =>
    have hlen : (putB x .vals).length = x.f5.length + 1 := by simp [putB]
    obtain ⟨b4, b5, he, h4, h5b⟩ := hp
    injection he with _ he; injection he with _ he; injection he with he _
    exact ⟨104, _, he, ent104, fun v bs W hW hO hl => put_list 81 5 of81 (.inl rfl) b4 qx A5 c5 x.f5 v bs Wz W hW hO (by omega) hx.2.2.2.2.2.1 h5 h4⟩
  case rets =>
    have hlen : (putB x .rets).length = x.f6.length + 1 := by simp [putB]
    obtain ⟨b4, b5, he, h4, h5b⟩ := hp
    injection he with _ he; injection he with _ he; injection he with he _
    exact ⟨104, _, he, ent104, fun v bs W hW hO hl => put_list 83 6 of83 (.inr rfl) b4 qx A6 c6 x.f6 v bs Wz W hW hO (by omega) hx.2.2.2.2.2.2 h6 h4⟩
  all_goals
    obtain ⟨b1, b3, b4, b5, he, _⟩ := hp
    injection he with _ he; injection he with _ he; injection he with he _
    exact ⟨100, #[], he, ent100, hnum rfl⟩
end Go.Proofs.YteonppgdmhakoaaDoor.PC
namespace Go.Proofs.YteonppgdmhakoaaDoor.PC
open Go.RowKit Go.Proofs.YteonppgdmhakoaaDoorW.PrintWords Go.Proofs.YteonppgdmhakoaaDoorW.PrintLast Go.Proofs.YteonppgdmhakoaaDoorW.PrintMore
set_option linter.unusedVariables false
set_option linter.unusedSimpArgs false
def instrB (x : S50) : List Int := byteI x.f0 :: (partsOf x.f0.toNat).flatMap (putB x)
def headL (f : S46) : List Int := [byteI f.f0, byteI f.f1, byteI f.f2, byteI f.f3.length, byteI ((f.f3.length : Int) / 256)]
def topL (G : Int) (fs : List S46) : List Int := [102, 117, 103, 117, 101, 1] ++ [byteI G, byteI fs.length, byteI ((fs.length : Int) / 256)]
def encB (G : Int) (fs : List S46) : List Int := topL G fs ++ fs.flatMap headL ++ fs.flatMap (fun f => f.f3.flatMap instrB)
theorem iter_all {step : Nat → Int → Int × Int} {n : Nat} {l : Int} (h : (iter step n l).1 = 0) (q : Nat) (hq : q < n) : ∃ l1, iter step q l = (0, l1) ∧ (step q l1).1 = 0 := by
  have h1 : (iter step (q + 1) l).1 = 0 := by
    by_cases e : (iter step (q + 1) l).1 = 0
    · exact e
    · rw [iter_stop e n (by omega)] at h
      exact h
  have h0 : (iter step q l).1 = 0 := by
    by_cases e : (iter step q l).1 = 0
    · exact e
    · rw [iter_stop e (q + 1) (by omega)] at h1
      exact h1
  refine ⟨(iter step q l).2, Prod.ext h0 rfl, ?_⟩
  have h2 : iter step (q + 1) l = step q (iter step q l).2 := by
    show (if _ then _ else _) = _
    rw [if_pos h0]
  rw [← h2]
  exact h1
theorem first_ok {G : Int} {fs : List S46} (h : firstE G fs = 0) : funcsE fs.length = 0 ∧ (iter (headS fs) fs.length 0).1 = 0 ∧ (iter (codeS G fs) fs.length (iter (headS fs) fs.length 0).2).1 = 0 := by
  unfold firstE at h
  by_cases h1 : globE G = 0
  · rw [if_pos h1] at h
    by_cases h2 : funcsE fs.length = 0
    · rw [if_pos h2] at h
      by_cases h3 : (iter (headS fs) fs.length 0).1 = 0
      · rw [if_pos h3] at h
        exact ⟨h2, h3, h⟩
      · rw [if_neg h3] at h
        exact absurd h h3
    · rw [if_neg h2] at h
      exact absurd h h2
  · rw [if_neg h1] at h
    exact absurd h h1
theorem heads_ok {G : Int} {fs : List S46} (h : firstE G fs = 0) (i : Nat) (hi : i < fs.length) : headB fs[i].f0 fs[i].f1 fs[i].f2 fs[i].f3.length = true := by
  obtain ⟨l1, _, h1⟩ := iter_all (first_ok h).2.1 i hi
  unfold headS at h1
  rw [getD46 fs i hi] at h1
  replace h1 : headE l1 fs[i].f0 fs[i].f1 fs[i].f2 fs[i].f3.length = 0 := h1
  unfold headE at h1
  cases e : headB fs[i].f0 fs[i].f1 fs[i].f2 fs[i].f3.length with
  | true => rfl
  | false => rw [e, if_neg (by decide)] at h1; omega
theorem head_le {P R V n : Int} (h : headB P R V n = true) : P ≤ 8 ∧ R ≤ 4 ∧ n ≤ 4096 := by
  unfold headB at h
  simp only [Bool.and_eq_true, decide_eq_true_eq] at h
  omega
theorem instr_ok {G : Int} {fs : List S46} (h : firstE G fs = 0) (i : Nat) (hi : i < fs.length) (k : Nat) (hk : k < fs[i].f3.length) : ∃ l1, opE l1 fs[i].f3[k] (k + 1 == fs[i].f3.length) = 0 ∧ partsE G fs fs[i] fs[i].f3[k] = 0 := by
  obtain ⟨l1, _, h1⟩ := iter_all (first_ok h).2.2 i hi
  unfold codeS at h1
  rw [getD46 fs i hi] at h1
  obtain ⟨l2, _, h2⟩ := iter_all h1 k hk
  unfold instrS at h2
  rw [getD50 fs[i].f3 k hk] at h2
  refine ⟨l2, ?_⟩
  by_cases e : opE l2 fs[i].f3[k] (k + 1 == fs[i].f3.length) = 0
  · rw [if_pos e] at h2
    exact ⟨e, h2⟩
  · rw [if_neg e] at h2
    exact absurd h2 e
theorem list_len {W V : Int} {l : List Int} (h : listE W V l = 0) : (l.length : Int) = W := by
  unfold listE at h
  by_cases e : (l.length : Int) = W
  · exact e
  · rw [if_neg e] at h; omega
theorem part_len {G : Int} {fs : List S46} (h : firstE G fs = 0) (i : Nat) (hi : i < fs.length) (k : Nat) (hk : k < fs[i].f3.length) (j : Nat) (pk : PK) (hj : (partsOf fs[i].f3[k].f0.toNat)[j]? = some pk) : (putB fs[i].f3[k] pk).length ≤ 9 := by
  obtain ⟨l1, _, hp⟩ := instr_ok h i hi k hk
  obtain ⟨f, hf⟩ : ∃ f, f = fs[i] := ⟨_, rfl⟩
  have hh := head_le (heads_ok h i hi)
  unfold partsE at hp
  have hjl : j < (partsOf fs[i].f3[k].f0.toNat).length := by
    rcases Nat.lt_or_ge j (partsOf fs[i].f3[k].f0.toNat).length with g | g
    · exact g
    · rw [List.getElem?_eq_none g] at hj; cases hj
  obtain ⟨l2, hit, h2⟩ := iter_all hp j hjl
  obtain rfl : l2 = 0 := by
    have gen : ∀ n, (iter (partS G fs fs[i] fs[i].f3[k]) n 0).2 = 0 := by
      intro n
      induction n with
      | zero => rfl
      | succ n ih =>
        show (if _ then _ else _ : Int × Int).2 = 0
        by_cases e : (iter (partS G fs fs[i] fs[i].f3[k]) n 0).1 = 0
        · rw [if_pos e]; exact ih
        · rw [if_neg e]; exact ih
    have := gen j
    rw [hit] at this
    exact this
  have hm := may_ask (G := G) (f := fs[i]) j pk hj (by rw [hit])
  rw [partS_at rfl hj rfl] at h2
  replace h2 : partE G fs fs[i].f1 fs[i].f2 fs[i].f3.length fs[i].f3[k] pk = 0 := h2
  obtain ⟨x, hx⟩ : ∃ x, x = fs[i].f3[k] := ⟨_, rfl⟩
  rw [← hx] at h2 hm ⊢
  have htab := tab_range x.f0.toNat
  cases pk
  case args =>
    have h3 := list_len (show listE (fs.getD x.f4.toNat z46).f0 _ x.f5 = 0 from h2)
    have h4 := head_le (heads_ok h x.f4.toNat (by have := hm.1; have := hm.2; omega))
    rw [getD46 fs _ (by have := hm.1; have := hm.2; omega)] at h3
    simp only [putB, List.length_cons, List.length_map]
    omega
  case rets =>
    have h3 := list_len (show listE (fs.getD x.f4.toNat z46).f1 _ x.f6 = 0 from h2)
    have h4 := head_le (heads_ok h x.f4.toNat (by have := hm.1; have := hm.2; omega))
    rw [getD46 fs _ (by have := hm.1; have := hm.2; omega)] at h3
    simp only [putB, List.length_cons, List.length_map]
    omega
  case vals =>
    have h3 := list_len (show listE fs[i].f1 _ x.f5 = 0 from h2)
    simp only [putB, List.length_cons, List.length_map]
    omega
  all_goals
    simp only [putB, List.length_cons, List.length_nil, numB_len]
    omega
theorem flat_le {α : Type} (f : α → List Int) (c : Nat) : ∀ (l : List α), (∀ a ∈ l, (f a).length ≤ c) → (l.flatMap f).length ≤ c * l.length
  | [], _ => by simp
  | a :: l, h => by
    have h1 := h a List.mem_cons_self
    have h2 := flat_le f c l (fun b hb => h b (List.mem_cons_of_mem _ hb))
    rw [List.flatMap_cons, List.length_append, List.length_cons, Nat.mul_succ]
    omega
theorem parts_len {G : Int} {fs : List S46} (h : firstE G fs = 0) (i : Nat) (hi : i < fs.length) (k : Nat) (hk : k < fs[i].f3.length) (j : Nat) : (((partsOf fs[i].f3[k].f0.toNat).take j).flatMap (putB fs[i].f3[k])).length ≤ 27 := by
  have h3 := parts_le fs[i].f3[k].f0.toNat
  have h1 := flat_le (putB fs[i].f3[k]) 9 ((partsOf fs[i].f3[k].f0.toNat).take j) (fun a ha => by
    obtain ⟨q, hq, e⟩ := List.getElem_of_mem (List.mem_of_mem_take ha)
    exact part_len h i hi k hk q a (by rw [← e]; exact List.getElem?_eq_getElem hq))
  rw [List.length_take] at h1
  omega
theorem instr_len {G : Int} {fs : List S46} (h : firstE G fs = 0) (i : Nat) (hi : i < fs.length) (k : Nat) (hk : k < fs[i].f3.length) : (instrB fs[i].f3[k]).length ≤ 28 := by
  have h1 := parts_len h i hi k hk (partsOf fs[i].f3[k].f0.toNat).length
  rw [List.take_of_length_le (Nat.le_refl _)] at h1
  unfold instrB
  rw [List.length_cons]
  omega
theorem codeB_len {G : Int} {fs : List S46} (h : firstE G fs = 0) (i : Nat) (hi : i < fs.length) (k : Nat) : ((fs[i].f3.take k).flatMap instrB).length ≤ 114688 := by
  have h1 := flat_le instrB 28 (fs[i].f3.take k) (fun a ha => by
    obtain ⟨q, hq, e⟩ := List.getElem_of_mem (List.mem_of_mem_take ha)
    rw [← e]
    exact instr_len h i hi q hq)
  have h2 := (head_le (heads_ok h i hi)).2.2
  have h3 : (fs[i].f3.take k).length ≤ fs[i].f3.length := by rw [List.length_take]; omega
  omega
theorem codes_len {G : Int} {fs : List S46} (h : firstE G fs = 0) (q : Nat) : ((fs.take q).flatMap (fun f => f.f3.flatMap instrB)).length ≤ 114688 * 65535 := by
  have h1 := flat_le (fun f : S46 => f.f3.flatMap instrB) 114688 (fs.take q) (fun a ha => by
    obtain ⟨i, hi, e⟩ := List.getElem_of_mem (List.mem_of_mem_take ha)
    rw [← e]
    have := codeB_len h i hi fs[i].f3.length
    rwa [List.take_of_length_le (Nat.le_refl _)] at this)
  have h2 := (first_ok h).1
  unfold funcsE at h2
  have h3 : (fs.take q).length ≤ fs.length := by rw [List.length_take]; omega
  by_cases e : 1 ≤ (fs.length : Int) ∧ (fs.length : Int) ≤ 65535
  · have : (fs.take q).length ≤ 65535 := by omega
    omega
  · rw [if_neg e] at h2; omega
theorem headsB_len {G : Int} {fs : List S46} (h : firstE G fs = 0) (q : Nat) : ((fs.take q).flatMap headL).length ≤ 5 * 65535 := by
  have h1 := flat_le headL 5 (fs.take q) (fun a _ => by simp [headL])
  have h2 := (first_ok h).1
  unfold funcsE at h2
  have h3 : (fs.take q).length ≤ fs.length := by rw [List.length_take]; omega
  by_cases e : 1 ≤ (fs.length : Int) ∧ (fs.length : Int) ≤ 65535
  · have : (fs.take q).length ≤ 65535 := by omega
    omega
  · rw [if_neg e] at h2; omega
end Go.Proofs.YteonppgdmhakoaaDoor.PC
namespace Go.Proofs.YteonppgdmhakoaaDoor.PC
open Go.RowKit Go.Proofs.YteonppgdmhakoaaDoorW.PrintWords Go.Proofs.YteonppgdmhakoaaDoorW.PrintLast Go.Proofs.YteonppgdmhakoaaDoorW.PrintMore
set_option linter.unusedVariables false
set_option linter.unusedSimpArgs false
theorem u8_at (zs : List Int) (j : Nat) (v : Value) (h : (zs.map (Value.int .u8))[j]? = some v) : (zs.map (Value.int .u8)).toArray[j]? = some v := by
  rw [List.getElem?_toArray]; exact h
theorem u8_reps (w : World) (base : Nat) (ok : Nat → Prop) (zs : List Int) : Reps (kB.M w base ok) 1 zs (zs.map (Value.int .u8)) := by
  induction zs with
  | nil => exact Reps.none _ _
  | cons z zs ih => exact Reps.one (show kB.M _ _ _ z [.int .u8 z] from rfl) ih
theorem grow_marked (W : World) (base ty b q : Nat) (xs ys : List Int) (n m : Nat) (hn : n = xs.length) (hm : m = ys.length) (fz fy : Nat × Nat) (hb : W.heap[b]? = some (.cells (xs.map (Value.int .u8)).toArray 5 fz)) (hq : W.heap[q]? = some (.cells (ys.map (Value.int .u8)).toArray 5 fy)) (hy : 0 < m) (hbase : base ≤ W.heap.size) (hl : n + m ≤ 140737488355328) :
    ∃ v1 w1, (Builtin.append_ #[33, 33] ty #[.slice (some ⟨b, 0, none⟩) n n, .slice (some ⟨q, 0, none⟩) m m]).run Tryd.prog W = .ok v1 w1 ∧ kB.R 5 w1 base (fun _ => True) v1 (xs ++ ys) ∧ Below base W w1 := by
  obtain ⟨i0, hi, hzz⟩ := Option.map_eq_some_iff.1 info5
  simp only [Prod.mk.injEq] at hzz
  obtain ⟨hz0, hz1, hz2⟩ := hzz
  subst hn hm
  have holds : ∀ j v, (xs.map (Value.int .u8))[j]? = some v → W.cell? ((⟨b, 0, none⟩ : Addr).add j) = some v := fun j v h => by rw [Addr.add_lit]; exact (cell_of_row W b _ _ _ _ hb).trans (by simpa using u8_at xs j v h)
  have hnews : ∀ j v, (ys.map (Value.int .u8))[j]? = some v → W.cell? ((⟨q, 0, none⟩ : Addr).add j) = some v := fun j v h => by rw [Addr.add_lit]; exact (cell_of_row W q _ _ _ _ hq).trans (by simpa using u8_at ys j v h)
  have hr := run_append_grow (P := Tryd.prog) W 33 ty 5 i0 (.int .u8 0) Tryd.underlying33 hi hz0 ⟨b, 0, none⟩ xs.length xs.length _ (by rw [List.length_map, hz1, Nat.mul_one]) holds ⟨q, 0, none⟩ ys.length ys.length _ (by rw [List.length_map, hz1, Nat.mul_one]) hnews (by omega) (by omega) (growslice_fits (by omega) (by rw [hz2]; omega))
  refine ⟨_, _, hr, ⟨fun _ _ => trivial, (xs ++ ys).map (Value.int .u8), ⟨by rw [List.length_map]; exact (Nat.mul_one _).symm, .inr ⟨W.heap.size, grownCap W (xs.length + ys.length) xs.length 5, _, by rw [List.length_append], hbase, heap_alloc_new W.drew _, by rw [List.length_append]; exact grownCap_ge W (xs.length + ys.length) xs.length 5, grownCap_le_maxLen W _ _ 5 (by simp only [maxLen]; omega), ?_, ?_⟩⟩, u8_reps _ _ _ _⟩, ?_⟩
  · have hge := grownCap_ge W (xs.length + ys.length) xs.length 5
    rw [Array.size_append, Array.size_append, List.size_toArray, List.size_toArray, size_zeroCells, List.length_map, List.length_map]
    show xs.length + ys.length + (grownCap W (xs.length + ys.length) xs.length 5 - (xs.length + ys.length)) * 1 = grownCap W (xs.length + ys.length) xs.length 5 * 1
    omega
  · rw [Array.toList_append, Array.toList_append, List.toList_toArray, List.toList_toArray, ← List.map_append]
    exact List.take_left' (by rw [List.length_map]; exact (Nat.mul_one _).symm)
  · exact ((Below.refl base W).drew).alloc hbase _
theorem wp_grow_marked {ops : Array Oper} {rest : List Oper} {o : Oper} {a : Act} {Q : Exit → Act → World → Prop} (W : World) (base b q : Nat) (xs ys : List Int) (n m : Nat) (hn : n = xs.length) (hm : m = ys.length) (fz fy : Nat × Nat) (hgd : o.guard = none) (s x : Operand) (ho : o.op = .call { callee := .builtin .append, args := #[s, x], argTypes := #[33, 33] }) (hs : a.eval s = .slice (some ⟨b, 0, none⟩) n n) (hx : a.eval x = .slice (some ⟨q, 0, none⟩) m m)
    (hb : W.heap[b]? = some (.cells (xs.map (Value.int .u8)).toArray 5 fz)) (hq : W.heap[q]? = some (.cells (ys.map (Value.int .u8)).toArray 5 fy)) (hy : 0 < m) (hbase : base ≤ W.heap.size) (hl : n + m ≤ 140737488355328)
    (h : ∀ v1 w1, kB.R 5 w1 base (fun _ => True) v1 (xs ++ ys) → Below base W w1 → wpList Tryd.prog ops Q rest (a.put o.dst v1) w1) : wpList Tryd.prog ops Q (o :: rest) a W := by
  obtain ⟨v1, w1, hr, hR, hB⟩ := grow_marked W base o.type b q xs ys n m hn hm fz fy hb hq hy hbase hl
  refine wpList_plain hgd fun K hK => ?_
  unfold Oper.wp execOp
  simp only [ho, resolve, invoke, builtin, Sem.run_bind, Sem.run_pure, Result.andThen_ok, List.map_toArray, List.map_cons, List.map_nil, hs, hx, hr]
  exact hK _ _ (h v1 w1 hR hB)
theorem wp_mark_bytes {ops : Array Oper} {rest : List Oper} {o : Oper} {a : Act} {Q : Exit → Act → World → Prop} (w : World) (C : Array Value) (n c : Nat) (hgd : o.guard = none) (x : Operand) (ho : o.op = .convert 33 33 x) (hx : a.eval x = .slice (some ⟨w.heap.size, 0, none⟩) n c)
    (h : ∀ w1, w1.heap[w.heap.size]? = some (.cells C 5 (C.size, C.size + 1)) → Below w.heap.size w w1 → wpList Tryd.prog ops Q rest (a.put o.dst (.slice (some ⟨w.heap.size, 0, none⟩) n c)) w1) : wpList Tryd.prog ops Q (o :: rest) a (w.alloc (.cells C 5)) := by
  have hr := Lib.run_convert_bytes_const (P := Tryd.prog) w 33 5 C n c Tryd.underlying33 Tryd.underlying5
  refine wpList_plain hgd fun K hK => ?_
  unfold Oper.wp execOp
  simp only [ho, Sem.run_bind, Sem.run_pure, Result.andThen_ok, hx, hr]
  exact hK _ _ (h _ (heap_alloc_new w _) (below_alloc (Below.refl _ _) _))
theorem opE_op {l : Int} {x : S50} {last : Bool} (h : opE l x last = 0) : 1 ≤ x.f0 ∧ x.f0 < 18 := by
  unfold opE at h
  by_cases h0 : 1 ≤ x.f0 ∧ x.f0 < 18
  · exact h0
  · rw [if_neg h0] at h; omega
theorem flat_next {α : Type} (g : α → List Int) (l : List α) (k : Nat) (h : k < l.length) : (l.take (k + 1)).flatMap g = (l.take k).flatMap g ++ g l[k] := by
  rw [List.take_succ_eq_append_getElem h, List.flatMap_append]
  simp
end Go.Proofs.YteonppgdmhakoaaDoor.PC
namespace Go.Proofs.YteonppgdmhakoaaDoor.PC
open Go.RowKit Go.Proofs.YteonppgdmhakoaaDoorW.PrintWords Go.Proofs.YteonppgdmhakoaaDoorW.PrintLast Go.Proofs.YteonppgdmhakoaaDoorW.PrintMore
set_option linter.unusedVariables false
set_option linter.unusedSimpArgs false
def encOut (G : Int) (fs : List S46) : List Int := if firstE G fs = 0 then encB G fs else []
theorem bytes_made (W : World) (ys : List Int) (hl : ys.length ≤ 9223372036854775807) : ReadsRow (fun (x : Int) cs => cs = [Value.int .u8 x]) 1 (W.alloc (.cells (ys.map (Value.int .u8)).toArray 5)) (some ⟨W.heap.size, 0, none⟩) ys.length ys := by
  refine ⟨rfl, hl, fun _ => ⟨_, rfl, fun j p hj => ⟨_, rfl, rfl, fun i u hi => ?_⟩⟩⟩
  rcases i with _ | i
  · obtain rfl : Value.int .u8 p = u := by simpa using hi
    have h1 := blk_cell (show (W.alloc (.cells (ys.map (Value.int .u8)).toArray 5)).heap[W.heap.size]? = some (.cells (ys.map (Value.int .u8)).toArray 5 (0, 0)) from blk_at _) j
    have e : (⟨W.heap.size, 0, none⟩ : Addr).add (j * 1 + 0) = ⟨W.heap.size, j, none⟩ := by unfold Addr.add; by_cases h : j = 0 <;> simp [h]
    rw [e, h1, List.getElem?_toArray, List.getElem?_map, hj]
    rfl
  · simp at hi
theorem bytes_made2 (W : World) (o1 : Obj) (ys : List Int) (hl : ys.length ≤ 9223372036854775807) : ReadsRow (fun (x : Int) cs => cs = [Value.int .u8 x]) 1 ((W.alloc o1).alloc (.cells (ys.map (Value.int .u8)).toArray 5)) (some ⟨W.heap.size + 1, 0, none⟩) ys.length ys := by
  have h := bytes_made (W.alloc o1) ys hl
  rwa [show (W.alloc o1).heap.size = W.heap.size + 1 from Array.size_push _] at h
set_option maxRecDepth 100000 in
set_option maxHeartbeats 16000000 in
theorem enc_any (G : Int) (A : Option Addr) (c : Nat) (fs : List S46) (w : World) (hF : k46.C w A fs.length fs) (hT : Tab w) : Calls Tryd.prog 20 #[.agg #[.int .i64 G, .slice A fs.length c]] w fun e w' => ∃ v, e = .returned (.tuple #[v, .int .i64 (firstE G fs)]) ∧ kB.R 5 w' w.heap.size (fun _ => True) v (encOut G fs) ∧ Below w.heap.size w w' := by
  have HB := Aside0.mk (Below.refl w.heap.size w)
  have HF := Aside0.mk hF
  have HT := Aside0.mk hT
  have hm : fs.length ≤ 9223372036854775807 := Kd.C_max hF
  obtain ⟨n, hn⟩ : ∃ n, n = fs.length := ⟨_, rfl⟩
  have Hn := Aside0.mk hn
  have HCf := Aside0.mk (fun w1 (hb : Below w.heap.size w w1) => first_any G A c fs w1 (Kd.C_below hF hb))
  rw [← hn] at hm HCf ⊢
  clear hF hn hT
  obtain ⟨er, her⟩ : ∃ er, er = firstE G fs := ⟨_, rfl⟩
  have He := Aside0.mk her
  rw [← her]
  clear her
  go_enter Tryd.func20, Tryd.ntmps20
  go_wp2_with ((with_reducible refine gate_dst (N := 1) rfl ?_); refine box_event ?hg (N := 1) ?hd (cs := #[.int .i64 G, .slice A n c]) (t := 24) ?hr ?_; (case hd => rfl); (case hg => rfl); (case hr => first | (go_simp; done) | (go_simp; rfl)); intro g1 hg w1 hbox hb; have G1 : Aside0 (w.heap.size ≤ g1) := ⟨by have := HB.out.size; omega⟩; have HB_ := Aside0.mk (HB.out.trans (hb.mono HB.out.size)); clear HB; have HB := HB_; clear HB_; have BK1 := Aside0.mk hbox; clear hg hbox hb; have hz0 : w1.cell? ⟨g1, 0, none⟩ = some (.int .i64 G) := (blk_cell BK1.out 0).trans rfl; have hz1 : w1.cell? ⟨g1, 1, none⟩ = some (.slice A n c) := (blk_cell BK1.out 1).trans rfl)
  refine (HCf.out w1 HB.out).mono ?_
  rintro e w' ⟨rfl, hb⟩
  have HB' := Aside0.mk (HB.out.trans (hb.mono HB.out.size))
  have BK' := Aside0.mk (blk_below BK1.out hb)
  rw [← He.out]
  clear hb HB BK1 hz0 hz1 HCf
  by_cases h0 : er = 0
  · subst h0
    have HZ : Aside0 (encOut G fs = encB G fs) := ⟨by unfold encOut; rw [if_pos He.out.symm]⟩
    have HZ0 : Aside0 (firstE G fs = 0) := ⟨He.out.symm⟩
    obtain ⟨w2, rfl⟩ : ∃ w2, w2 = w' := ⟨_, rfl⟩
    have hz0 : w2.cell? ⟨g1, 0, none⟩ = some (.int .i64 G) := (blk_cell BK'.out 0).trans rfl
    go_wp2_with fail
    refine (ops_any w2).mono ?_
    rintro e wo ⟨B, rfl, hO, hGB, hb⟩
    have HO := Aside0.mk hO
    have HBo := Aside0.mk (HB'.out.trans (hb.mono HB'.out.size))
    have BKo := Aside0.mk (blk_below BK'.out hb)
    have HFo := Aside0.mk (Hn.out ▸ Kd.C_below HF.out HBo.out)
    have HTo := Aside0.mk (HT.out.below HBo.out)
    clear hO hGB hb HB' BK' hz0 He HF HT
    have HLen1 : Aside0 ((topL G fs).length = 9) := ⟨rfl⟩
    have HLen2 := Aside0.mk (headsB_len HZ0.out)
    have HLen3 := Aside0.mk (codes_len HZ0.out)
    have HLen4 := Aside0.mk (codeB_len HZ0.out)
    have HLen5 := Aside0.mk (parts_len HZ0.out)
    have HLen6 := Aside0.mk (part_len HZ0.out)
    have HOk := Aside0.mk (instr_ok HZ0.out)
    go_wp2_with (first | ((with_reducible refine gate_dst (N := 22) rfl ?_); refine wp_mark_bytes wo _ 6 6 rfl (.tmp 21) rfl rfl ?_; intro w4 hbk hbw; have hz0 := pw_cell_below hbw ((blk_cell BKo.out 0).trans rfl : wo.cell? ⟨g1, 0, none⟩ = some (.int .i64 G)); have hz1 := pw_cell_below hbw ((blk_cell BKo.out 1).trans rfl : wo.cell? ⟨g1, 1, none⟩ = some (.slice A n c))) | ((with_reducible refine gate_builtin (b := .append) (xs := #[.tmp 22, .tmp 35]) rfl ?_); at_builtin; refine wp_grow_marked _ wo.heap.size wo.heap.size w4.heap.size [102, 117, 103, 117, 101, 1] [G % 256, (n : Int) % 256, (n : Int) / 256 % 256] 6 3 rfl rfl (6, 7) (0, 0) rfl (.tmp 22) (.tmp 35) rfl rfl rfl ?b1 ?b2 (by decide) ?bb (by decide) ?_; (case b1 => exact blk_alloc hbk _); (case b2 => exact blk_at _); (case bb => exact (hbw.alloc hbw.size _).size); intro v1 w5 ho hb; have HOv : Aside0 (kB.R 5 w5 wo.heap.size (fun _ => True) v1 (topL G fs)) := ⟨by unfold topL byteI; rw [← Hn.out]; exact ho⟩; have HBv : Aside0 (Below wo.heap.size wo w5) := ⟨(hbw.alloc hbw.size _).trans hb⟩; have hz1' : w5.cell? ⟨g1, 1, none⟩ = some (.slice A n c) := (blk_cell (blk_below BKo.out HBv.out) 1).trans rfl; clear ho hb hbk hbw hz0 hz1; have hz1 := hz1'; clear hz1'))
    clear hz1
    go_loopw [6, 40] (fun v6 v40 w' => ∃ q : Nat, q ≤ n ∧ v40 = .int .i64 (q : Int) ∧ Aside0 (kB.R 5 w' wo.heap.size (fun _ => True) v6 (topL G fs ++ (fs.take q).flatMap headL)) ∧ Aside0 (Below wo.heap.size wo w')) (fun _ i _ => n - (intOf i).toNat)
    case atStart => exact ⟨0, Nat.zero_le _, rfl, ⟨by simpa using HOv.out⟩, HBv⟩
    case round =>
      obtain ⟨q, hq, rfl, HO2, HB2⟩ := hrel
      clear HOv HBv
      obtain ⟨E, hE⟩ : ∃ E, E = topL G fs ++ (fs.take q).flatMap headL := ⟨_, rfl⟩
      have HE := Aside0.mk hE
      rw [← hE] at HO2
      clear hE
      by_cases hlt : q < n
      · have hwp : wrap64 ((q : Int) + 1) = (q : Int) + 1 := wrap_in (by omega) (by omega)
        have q0 : (0 : Int) ≤ (q : Int) := by omega
        have q1 : (q : Int) < (n : Int) := by omega
        have hql : q < fs.length := by rw [← Hn.out]; exact hlt
        obtain ⟨ad, A3, c3, hAd, hy0, hy1, hy2, hy3, hC3⟩ := at46 HFo.out q hql Hn.out
        subst hAd
        have hm3 : fs[q].f3.length ≤ 9223372036854775807 := Kd.C_max hC3
        have HM := Aside0.mk (flat_next headL fs q hql)
        have HLn2 : Aside0 ((E.length + 5) * 1 ≤ 140737488355328) := ⟨by rw [HE.out, List.length_append, HLen1.out]; have := HLen2.out q; omega⟩
        obtain ⟨f, hf⟩ : ∃ f, f = fs[q] := ⟨_, rfl⟩
        rw [← hf] at hy0 hy1 hy2 hy3 HM hm3
        clear hf hC3
        obtain ⟨m3, h3⟩ : ∃ m3, m3 = f.f3.length := ⟨_, rfl⟩
        have HM3 := Aside0.mk h3
        rw [← h3] at hy3 hm3
        clear h3
        replace hy0 := pw_cell_below HB2.out hy0
        replace hy1 := pw_cell_below HB2.out hy1
        replace hy2 := pw_cell_below HB2.out hy2
        replace hy3 := pw_cell_below HB2.out hy3
        go_wp2_with ((with_reducible refine gate_builtin (b := .append) (xs := #[.tmp 44, .tmp 63]) rfl ?_); at_builtin; refine Kd.R_append_rows (Kd.int .u8) (Rr := fun (x : Int) cs => cs = [Value.int .u8 x]) (w0 := wo) wo.heap.size rfl (.tmp 44) (.tmp 63) 33 5 (.int .u8 0) 1 rfl Tryd.underlying33 info5 rfl (by decide) (by omega) (u6) (E) [f.f0 % 256, f.f1 % 256, f.f2 % 256, (m3 : Int) % 256, (m3 : Int) / 256 % 256] _ 5 _ (fun _ => True) (fun _ => False) rfl rfl ?aO ?aR (fun _ _ h => h) (fun _ hk => hk.elim) (fun _ _ => trivial) ?aB ?aS ?aL ?_; (case aO => exact Kd.R_below HO2.out (below_alloc (below_alloc (Below.refl _ _) _) _)); (case aR => exact bytes_made2 wr (.cells #[.int .i64 f.f0, .int .i64 f.f1, .int .i64 f.f2, .slice A3 m3 c3] 46) [f.f0 % 256, f.f1 % 256, f.f2 % 256, (m3 : Int) % 256, (m3 : Int) / 256 % 256] (by simp)); (case aB => exact below_alloc (below_alloc (HB2.out) _) _); (case aS => exact (below_alloc (below_alloc (HB2.out) _) _).size); (case aL => exact HLn2.out); intro v1 wv ho hb hg hat; have HBv := Aside0.mk hb; have HOv := Aside0.mk ho; clear ho hb hg hat)
        have HO3 : Aside0 (kB.R 5 wv wo.heap.size (fun _ => True) v1 (topL G fs ++ (fs.take (q + 1)).flatMap headL)) := ⟨by rw [HM.out, ← List.append_assoc, ← HE.out]; have := HOv.out; unfold headL byteI; rw [← HM3.out]; exact this⟩
        clear HOv hy0 hy1 hy2 hy3
        go_roundw
        case rel => exact ⟨q + 1, by omega, by go_num, HO3, HBv⟩
        case measure => simp [intOf]; omega
      · obtain rfl : n = q := by omega
        have HE0 : Aside0 (E = topL G fs ++ fs.flatMap headL) := ⟨by rw [HE.out, Hn.out, List.take_of_length_le (Nat.le_refl _)]⟩
        have HL0 : Aside0 (E.length ≤ 400000) := ⟨by rw [HE.out, List.length_append, HLen1.out]; have := HLen2.out n; omega⟩
        clear HE hlt hq
        obtain ⟨E0, rfl⟩ : ∃ E0, E0 = E := ⟨_, rfl⟩
        obtain ⟨w6, rfl⟩ : ∃ w6, w6 = wr := ⟨_, rfl⟩
        have HO0 := HO2
        have HB0 := HB2
        clear HO2 HB2
        have hz1 : w6.cell? ⟨g1, 1, none⟩ = some (.slice A n c) := (blk_cell (blk_below BKo.out HB0.out) 1).trans rfl
        go_wp2_with fail
        clear hz1
        go_loopw [6, 69] (fun v6 v69 w' => ∃ q : Nat, q ≤ n ∧ v69 = .int .i64 (q : Int) ∧ Aside0 (kB.R 5 w' wo.heap.size (fun _ => True) v6 (E0 ++ (fs.take q).flatMap (fun f => f.f3.flatMap instrB))) ∧ Aside0 (Below wo.heap.size wo w')) (fun _ i _ => n - (intOf i).toNat)
        case atStart => exact ⟨0, Nat.zero_le _, rfl, ⟨by simpa using HO0.out⟩, HB0⟩
        case round =>
          obtain ⟨q, hq, rfl, HO2, HB2⟩ := hrel
          clear HO0 HB0
          obtain ⟨E, hE⟩ : ∃ E, E = E0 ++ (fs.take q).flatMap (fun f => f.f3.flatMap instrB) := ⟨_, rfl⟩
          have HE := Aside0.mk hE
          rw [← hE] at HO2
          clear hE
          by_cases hlt : q < n
          · have hwp : wrap64 ((q : Int) + 1) = (q : Int) + 1 := wrap_in (by omega) (by omega)
            have q0 : (0 : Int) ≤ (q : Int) := by omega
            have q1 : (q : Int) < (n : Int) := by omega
            have hql : q < fs.length := by rw [← Hn.out]; exact hlt
            obtain ⟨ad, A3, c3, hAd, hy0, hy1, hy2, hy3, hC3⟩ := at46 HFo.out q hql Hn.out
            subst hAd
            have hmm : fs[q].f3.length ≤ 9223372036854775807 := Kd.C_max hC3
            have HM := Aside0.mk (flat_next (fun f : S46 => f.f3.flatMap instrB) fs q hql)
            have HL1 : Aside0 (E.length ≤ 7600000000) := ⟨by rw [HE.out, List.length_append]; have := HLen3.out q; have := HL0.out; omega⟩
            have HLc := Aside0.mk (HLen4.out q hql)
            have HLp := Aside0.mk (HLen5.out q hql)
            have HL9 := Aside0.mk (HLen6.out q hql)
            have HOkq := Aside0.mk (HOk.out q hql)
            obtain ⟨f, hf⟩ : ∃ f, f = fs[q] := ⟨_, rfl⟩
            rw [← hf] at hy0 hy1 hy2 hy3 HM hmm hC3 HLc HLp HL9 HOkq
            clear hf
            obtain ⟨m, hm0⟩ : ∃ m, m = f.f3.length := ⟨_, rfl⟩
            have Hm := Aside0.mk hm0
            have HC3 := Aside0.mk hC3
            rw [← hm0] at hy3 hmm
            clear hm0 hC3
            replace hy0 := pw_cell_below HB2.out hy0
            replace hy1 := pw_cell_below HB2.out hy1
            replace hy2 := pw_cell_below HB2.out hy2
            replace hy3 := pw_cell_below HB2.out hy3
            go_wp2_with fail
            obtain ⟨w8, hw8⟩ : ∃ w8, w8 = wr.alloc (.cells #[.int .i64 f.f0, .int .i64 f.f1, .int .i64 f.f2, .slice A3 m c3] 46) := ⟨_, rfl⟩
            obtain ⟨g8, hg8⟩ : ∃ g8, g8 = wr.heap.size := ⟨_, rfl⟩
            rw [← hw8, ← hg8]
            have BK8 := Aside0.mk (show w8.heap[g8]? = some (.cells #[.int .i64 f.f0, .int .i64 f.f1, .int .i64 f.f2, .slice A3 m c3] 46 (0, 0)) by rw [hw8, hg8]; exact blk_at _)
            have HO8 : Aside0 (kB.R 5 w8 wo.heap.size (fun _ => True) u6 E) := ⟨by rw [hw8]; exact Kd.R_below HO2.out (below_alloc (Below.refl _ _) _)⟩
            have HB8 : Aside0 (Below wo.heap.size wo w8) := ⟨by rw [hw8]; exact HB2.out.alloc HB2.out.size _⟩
            clear hw8 hg8 HO2 HB2 hy0 hy1 hy2 hy3
            have HW1 := Aside0.mk hwp
            clear hwp
            go_loopw [6, 76] (fun v6 v76 w' => ∃ k : Nat, k ≤ m ∧ v76 = .int .i64 (k : Int) ∧ Aside0 (kB.R 5 w' wo.heap.size (fun _ => True) v6 (E ++ (f.f3.take k).flatMap instrB)) ∧ Aside0 (Below wo.heap.size wo w') ∧ Aside0 (w'.heap[g8]? = some (.cells #[.int .i64 f.f0, .int .i64 f.f1, .int .i64 f.f2, .slice A3 m c3] 46 (0, 0)))) (fun _ i _ => m - (intOf i).toNat)
            case atStart => exact ⟨0, Nat.zero_le _, rfl, ⟨by simpa using HO8.out⟩, HB8, BK8⟩
            case round =>
              obtain ⟨k, hk, rfl, HO3, HB3, BK3⟩ := hrel
              clear HO8 HB8 BK8
              obtain ⟨E2, hE2⟩ : ∃ E2, E2 = E ++ (f.f3.take k).flatMap instrB := ⟨_, rfl⟩
              have HE2 := Aside0.mk hE2
              rw [← hE2] at HO3
              clear hE2
              by_cases hlt2 : k < m
              · have hwp2 : wrap64 ((k : Int) + 1) = (k : Int) + 1 := wrap_in (by omega) (by omega)
                have k0 : (0 : Int) ≤ (k : Int) := by omega
                have k1 : (k : Int) < (m : Int) := by omega
                have hkl : k < f.f3.length := by rw [← Hm.out]; exact hlt2
                obtain ⟨ad2, A5, c5, A6, c6, hAd2, hx, h5, h6⟩ := at50 HC3.out k hkl rfl
                subst hAd2
                obtain ⟨l1, ho1, -⟩ := HOkq.out k hkl
                obtain ⟨o1, o2⟩ := opE_op ho1
                clear ho1
                have HM2 := Aside0.mk (flat_next instrB f.f3 k hkl)
                have HL2 : Aside0 (E2.length ≤ 7700000000) := ⟨by rw [HE2.out, List.length_append]; have := HLc.out k; have := HL1.out; omega⟩
                have HLpx := Aside0.mk (HLp.out k hkl)
                have HL9x := Aside0.mk (HL9.out k hkl)
                obtain ⟨x, hxx⟩ : ∃ x, x = f.f3[k] := ⟨_, rfl⟩
                rw [← hxx] at hx h5 h6 o1 o2 HM2 HLpx HL9x
                clear hxx
                have HX := Aside0.mk (And.intro hx (And.intro h5 h6))
                clear hx h5 h6
                obtain ⟨op, hop⟩ : ∃ op : Nat, x.f0 = (op : Int) := ⟨x.f0.toNat, by omega⟩
                have HOp := Aside0.mk hop
                have HX0 : Aside0 (wo.cell? (ad2.add (k * 7)) = some (.int .i64 (op : Int))) := ⟨by rw [← hop]; exact HX.out.1.1⟩
                have HPt : Aside0 (partsOf x.f0.toNat = partsOf op) := ⟨by rw [hop, Int.toNat_natCast]⟩
                have hop1 : op < 18 := by omega
                obtain ⟨b, hrow, hR⟩ := HO.out op (by omega) (by omega)
                rw [hop] at o1 o2
                clear hop
                have HR := Aside0.mk hR
                have hnp := parts_le op
                obtain ⟨np, hnp0⟩ : ∃ np, np = (partsOf op).length := ⟨_, rfl⟩
                have Hnp := Aside0.mk hnp0
                rw [← hnp0] at hrow hnp
                have HRow := Aside0.mk hrow
                clear hR hnp0 hrow
                have hx0 := pw_cell_below HB3.out HX0.out
                have hy3 : wr.cell? ⟨g8, 3, none⟩ = some (.slice (some ad2) m c3) := (blk_cell BK3.out 3).trans rfl
                have HLn2 : Aside0 ((E2.length + 1) * 1 ≤ 140737488355328) := ⟨by have := HL2.out; omega⟩
                go_wp2_with ((with_reducible refine gate_builtin (b := .append) (xs := #[.tmp 83, .tmp 89]) rfl ?_); at_builtin; refine Kd.R_append_rows (Kd.int .u8) (Rr := fun (x : Int) cs => cs = [Value.int .u8 x]) (w0 := wo) wo.heap.size rfl (.tmp 83) (.tmp 89) 33 5 (.int .u8 0) 1 rfl Tryd.underlying33 info5 rfl (by decide) (by omega) (u6) (E2) [(op : Int)] _ 1 _ (fun _ => True) (fun _ => False) rfl rfl ?aO ?aR (fun _ _ h => h) (fun _ hk => hk.elim) (fun _ _ => trivial) ?aB ?aS ?aL ?_; (case aO => exact Kd.R_below HO3.out (below_alloc (Below.refl _ _) _)); (case aR => exact bytes_made wr [(op : Int)] (by simp)); (case aB => exact below_alloc (HB3.out) _); (case aS => exact (below_alloc (HB3.out) _).size); (case aL => exact HLn2.out); intro v1 wv ho hb hg hat; have HBv := Aside0.mk hb; have HOv := Aside0.mk ho; have BKv := Aside0.mk (Keep5.grown (Kd.R_below HO3.out (below_alloc (Below.refl _ _) _)) hg _ _ _ _ (by decide) (blk_alloc BK3.out _)); have hx0' := pw_cell_below HBv.out HX0.out; have hrow := pw_cell_below HBv.out HRow.out; clear hx0 hy3; have hx0 := hx0'; clear hx0'; clear ho hb hg hat)
                have HO5 : Aside0 (kB.R 5 wv wo.heap.size (fun _ => True) v1 (E2 ++ [byteI x.f0])) := ⟨by have := HOv.out; rw [show byteI x.f0 = (op : Int) from by rw [HOp.out]; exact Int.emod_eq_of_lt (by omega) (by omega)]; exact this⟩
                clear HOv hx0 hrow HO3 HB3 BK3
                have HW2 := Aside0.mk hwp2
                clear hwp2
                obtain ⟨E3, hE3⟩ : ∃ E3, E3 = E2 ++ [byteI x.f0] := ⟨_, rfl⟩
                have HE3 := Aside0.mk hE3
                rw [← hE3] at HO5
                clear hE3
                go_loopw [6, 99] (fun v6 v99 w' => ∃ j : Nat, j ≤ np ∧ v99 = .int .i64 (j : Int) ∧ Aside0 (kB.R 5 w' wo.heap.size (fun _ => True) v6 (E3 ++ ((partsOf op).take j).flatMap (putB x))) ∧ Aside0 (Below wo.heap.size wo w') ∧ Aside0 (w'.heap[g8]? = some (.cells #[.int .i64 f.f0, .int .i64 f.f1, .int .i64 f.f2, .slice (some ad2) m c3] 46 (0, 0)))) (fun _ i _ => np - (intOf i).toNat)
                case atStart => exact ⟨0, Nat.zero_le _, rfl, ⟨by simpa using HO5.out⟩, HBv, BKv⟩
                case round =>
                  obtain ⟨j, hj, rfl, HO4, HB4, BK4⟩ := hrel
                  clear HO5 HBv BKv
                  obtain ⟨E4, hE4⟩ : ∃ E4, E4 = E3 ++ ((partsOf op).take j).flatMap (putB x) := ⟨_, rfl⟩
                  have HE4 := Aside0.mk hE4
                  rw [← hE4] at HO4
                  clear hE4
                  by_cases hlt3 : j < np
                  · have j0 : (0 : Int) ≤ (j : Int) := Int.natCast_nonneg j
                    have j1 : (j : Int) < (np : Int) := Int.ofNat_lt.mpr hlt3
                    have hwp3 : wrap64 ((j : Int) + 1) = (j : Int) + 1 := wrap_in (by omega) (by omega)
                    have hjl : j < (partsOf op).length := by rw [← Hnp.out]; exact hlt3
                    obtain ⟨pk, hpk⟩ : ∃ pk, (partsOf op)[j]? = some pk := ⟨_, List.getElem?_eq_getElem hjl⟩
                    obtain ⟨c0, c1, c2, c3', hp, z0, z1, z2, z3⟩ := HR.out j pk hpk
                    have HM4 : Aside0 (((partsOf op).take (j + 1)).flatMap (putB x) = ((partsOf op).take j).flatMap (putB x) ++ putB x pk) := ⟨by rw [flat_next (putB x) (partsOf op) j hjl, (List.getElem?_eq_some_iff.1 hpk).2]⟩
                    have HL4 : Aside0 (E4.length + (putB x pk).length ≤ 100000000000000) := ⟨by have h1 := HL9x.out j pk (by rw [HPt.out]; exact hpk); have h2 := HLpx.out j; rw [HPt.out] at h2; rw [HE4.out, HE3.out, List.length_append, List.length_append, List.length_singleton]; have := HL2.out; omega⟩
                    have hc0 := mask_is hp
                    subst hc0
                    obtain ⟨k1', a1, k2, a2, k3, a3, rfl, rfl, rfl⟩ := fns_is hp
                    obtain ⟨fn, cap, hc2, hen, hcall⟩ := put_part pk _ _ _ _ (ad2.add (k * 7)) x A5 c5 A6 c6 op j wo hp HTo.out HX.out.1 HX.out.2.1 HX.out.2.2 HOp.out hpk
                    injection hc2 with hc2 _ hc3
                    injection hc2 with hc2
                    subst hc2 hc3
                    unfold Enters at hen
                    clear hpk hp
                    replace z0 := pw_cell_below HB4.out z0
                    replace z1 := pw_cell_below HB4.out z1
                    replace z2 := pw_cell_below HB4.out z2
                    replace z3 := pw_cell_below HB4.out z3
                    obtain ⟨w10, hw10⟩ : ∃ w10, w10 = wr.alloc (.cells #[.int .i64 (maskOf pk), .func (Fn.func k1') #[] a1, .func (Fn.func k2) #[] a2, .func (Fn.func k3) #[] a3] 69) := ⟨_, rfl⟩
                    have HW10 := Aside0.mk hw10
                    have HCl := Aside0.mk (hcall u6 E4 w10 (by rw [hw10]; exact HB4.out.alloc HB4.out.size _) (by rw [hw10]; exact Kd.R_below HO4.out (below_alloc (Below.refl _ _) _)) HL4.out)
                    clear hcall hw10
                    go_wp2_with fail
                    rw [← HW10.out]
                    have BK5 : Aside0 (w10.heap[g8]? = some (.cells #[.int .i64 f.f0, .int .i64 f.f1, .int .i64 f.f2, .slice (some ad2) m c3] 46 (0, 0))) := ⟨by rw [HW10.out]; exact blk_alloc BK4.out _⟩
                    refine HCl.out.mono ?_
                    rintro e w' ⟨v', rfl, hO, hB, hK⟩
                    have HOn : Aside0 (kB.R 5 w' wo.heap.size (fun _ => True) v' (E3 ++ ((partsOf op).take (j + 1)).flatMap (putB x))) := ⟨by rw [HM4.out, ← List.append_assoc, ← HE4.out]; exact hO⟩
                    have HBn := Aside0.mk hB
                    have BKn := Aside0.mk (hK _ _ _ _ (by decide) BK5.out)
                    clear hO hB hK z0 z1 z2 z3 hen HCl
                    clear q0 q1 k0 k1 hq hk hlt hlt2 hql hkl hjl o1 o2 hop1 hm hmm
                    go_wp2_with fail
                    go_roundw
                    case rel => exact ⟨j + 1, by omega, by go_num, HOn, HBn, BKn⟩
                    case measure => simp [intOf]; omega
                  · obtain rfl : np = j := by omega
                    have HO6 : Aside0 (kB.R 5 wr wo.heap.size (fun _ => True) u6 (E ++ (f.f3.take (k + 1)).flatMap instrB)) := ⟨by rw [HM2.out, ← List.append_assoc, ← HE2.out]; unfold instrB; rw [HPt.out]; have := HO4.out; rw [HE4.out, HE3.out, Hnp.out, List.take_of_length_le (Nat.le_refl _), List.append_assoc] at this; exact this⟩
                    have hwp2 := HW2.out
                    clear hlt3 hj HO4
                    go_wp2_with fail
                    go_roundw
                    case rel => exact ⟨k + 1, by omega, by go_num, HO6, HB4, BK4⟩
                    case measure => simp [intOf]; omega
              · obtain rfl : m = k := by omega
                have HO7 : Aside0 (kB.R 5 wr wo.heap.size (fun _ => True) u6 (E0 ++ (fs.take (q + 1)).flatMap (fun f => f.f3.flatMap instrB))) := ⟨by rw [HM.out, ← List.append_assoc, ← HE.out]; have := HO3.out; rw [HE2.out, Hm.out, List.take_of_length_le (Nat.le_refl _)] at this; exact this⟩
                have hwp := HW1.out
                clear hlt2 hk HO3
                go_wp2_with fail
                go_roundw
                case rel => exact ⟨q + 1, by omega, by go_num, HO7, HB3⟩
                case measure => simp [intOf]; omega
          · obtain rfl : n = q := by omega
            have HO8 : Aside0 (kB.R 5 wr w.heap.size (fun _ => True) u6 (encB G fs)) := ⟨by have := HO2.out; rw [HE.out, HE0.out, Hn.out, List.take_of_length_le (Nat.le_refl _)] at this; exact Kd.R_lower this HBo.out.size⟩
            have HB8 : Aside0 (Below w.heap.size w wr) := ⟨HBo.out.trans (HB2.out.mono HBo.out.size)⟩
            clear hlt hq HO2
            go_wp2_with fail
            go_ret2
            exact ⟨u6, rfl, by rw [HZ.out]; exact HO8.out, HB8.out⟩
  · have HZ : Aside0 (encOut G fs = []) := ⟨by unfold encOut; rw [if_neg (by rw [← He.out]; exact h0)]⟩
    have h0b : (er != 0) = true := by simpa using h0
    go_wp2_with fail
    go_ret2
    exact ⟨.slice none 0 0, rfl, by rw [HZ.out]; exact Kd.R_nil _ _ _ _ _, HB'.out⟩
end Go.Proofs.YteonppgdmhakoaaDoor.PC
namespace Go.Proofs.YteonppgdmhakoaaDoor.PC
open Go.RowKit Go.Proofs.YteonppgdmhakoaaDoorW.PrintWords Go.Proofs.YteonppgdmhakoaaDoorW.PrintLast Go.Proofs.YteonppgdmhakoaaDoorW.PrintMore
set_option linter.unusedVariables false
set_option linter.unusedSimpArgs false
def TAB_43.T2 : Bool × List (List Nat × List Nat) := (true, [([], []), ([0], [0]), ([1], [1]), ([], []), ([3], [3]), ([4], [4]), ([5], [5]), ([6], [6]), ([], []), ([8], [8]), ([9], [9]), ([10], [10]), ([7, 11], [7, 11]), ([], []), ([12, 13], [12, 13]), ([2, 14], [2, 14])])
def TAB_43.B2 : List Nat := [0, 1, 3, 0, 8, 24, 56, 120, 0, 256, 768, 1792, 4088, 0, 16376, 32767]
theorem TAB_43.tab2 : rtab .any (opsOf Tryd.f43 2) = TAB_43.T2 := by kernel_rfl
theorem TAB_43.bits2 : waitsOk TAB_43.T2.2 TAB_43.B2 = true := by kernel_rfl
def TAB_43.T9 : Bool × List (List Nat × List Nat) := (true, [([], []), ([0], [0]), ([], []), ([2], [2]), ([3], [3]), ([4], [4]), ([], []), ([6], [6]), ([7], [7]), ([8], [8]), ([9], [9]), ([], []), ([10, 11], [10, 11]), ([5, 12], [5, 12]), ([13], [13]), ([14], [14]), ([1, 15], [1, 15]), ([16, 0, 1, 2, 3, 4, 5, 6, 7, 8, 9, 10, 11, 12, 13, 14, 15, 16], [0, 16])])
def TAB_43.B9 : List Nat := [0, 1, 0, 4, 12, 28, 0, 64, 192, 448, 960, 0, 4032, 8188, 16380, 32764, 65535, 131071]
theorem TAB_43.tab9 : rtab .any (opsOf Tryd.f43 9) = TAB_43.T9 := by kernel_rfl
theorem TAB_43.bits9 : waitsOk TAB_43.T9.2 TAB_43.B9 = true := by kernel_rfl
theorem AskW.set4 {w : World} {g B : Nat} {ty : TypeId} {rest : List Value} {G : Int} {A : Option Addr} {n c : Nat} {locs at_ : Int} (h : AskW w g ty rest G A n c B locs at_) (z : Int) : AskW (w.setCell ⟨g, 4, none⟩ (.int .i64 z)) g ty rest G A n c B locs z := (blk_set h 4 _).trans (by simp)
theorem AskW.set6 {w : World} {g B : Nat} {ty : TypeId} {v u : Value} {G : Int} {A : Option Addr} {n c : Nat} {locs at_ : Int} (h : AskW w g ty [v, u] G A n c B locs at_) (z : Value) : AskW (w.setCell ⟨g, 6, none⟩ z) g ty [v, z] G A n c B locs at_ := (blk_set h 6 _).trans (by simp)
theorem AskW.set1 {w : World} {g B : Nat} {ty : TypeId} {rest : List Value} {G : Int} {A A' : Option Addr} {n n' c c' : Nat} {locs at_ : Int} (h : AskW w g ty rest G A n c B locs at_) : AskW (w.setCell ⟨g, 1, none⟩ (.slice A' n' c')) g ty rest G A' n' c' B locs at_ := (blk_set h 1 _).trans (by simp)
theorem AskW.set0 {w : World} {g B : Nat} {ty : TypeId} {rest : List Value} {G G' : Int} {A : Option Addr} {n c : Nat} {locs at_ : Int} (h : AskW w g ty rest G A n c B locs at_) : AskW (w.setCell ⟨g, 0, none⟩ (.int .i64 G')) g ty rest G' A n c B locs at_ := (blk_set h 0 _).trans (by simp)
abbrev rdR (Ab : Option Addr) (nb cb : Nat) (nx : Int) : List Value := [.slice Ab nb cb, .int .i64 nx]
def upN (bs : List Int) (p k : Nat) : Nat → Int
  | 0 => 0
  | m + 1 => upN bs p k m * 256 + bs.getD (p + (k - 1 - m)) 0
theorem wrap_u64 (n : Nat) (h : n < 18446744073709551616) : IntKind.u64.wrap (n : Int) = (n : Int) := by
  unfold IntKind.wrap
  show (if (false && _) = true then _ else (n : Int) % 2 ^ 64) = _
  simp only [Bool.false_and]
  show (n : Int) % 18446744073709551616 = _
  omega
theorem or_bytes (U x : Int) (h : 0 ≤ U ∧ U < 72057594037927936) (hx : 0 ≤ x ∧ x ≤ 255) : bits .or .u64 (IntKind.u64.wrap (U * 256)) (IntKind.u64.wrap x) = U * 256 + x := by
  obtain ⟨u, rfl⟩ := Int.eq_ofNat_of_zero_le h.1
  obtain ⟨y, rfl⟩ := Int.eq_ofNat_of_zero_le hx.1
  have e1 : (u : Int) * 256 = ((u * 256 : Nat) : Int) := by omega
  have hu : u < 72057594037927936 := by omega
  have hy : y < 256 := by omega
  rw [e1, wrap_u64 (u * 256) (by omega), wrap_u64 y (by omega)]
  show IntKind.u64.wrap ((BitVec.ofInt 64 ((u * 256 : Nat) : Int) ||| BitVec.ofInt 64 (y : Int)).toNat : Int) = _
  rw [BitVec.ofInt_natCast, BitVec.ofInt_natCast, BitVec.toNat_or, BitVec.toNat_ofNat, BitVec.toNat_ofNat, Nat.mod_eq_of_lt (by omega), Nat.mod_eq_of_lt (by omega), show u * 256 = u <<< 8 from by rw [Nat.shiftLeft_eq], ← Nat.shiftLeft_add_eq_or_of_lt (by omega), Nat.shiftLeft_eq, wrap_u64 _ (by omega)]
  omega
theorem wrap_i64 (n : Nat) (h : n < 9223372036854775808) : IntKind.i64.wrap (n : Int) = (n : Int) := by
  rw [i64_w]
  exact wrap_in (by omega) (by omega)
theorem or_bytes64 (y x : Int) (hy : 0 ≤ y ∧ y ≤ 255) (hx : 0 ≤ x ∧ x ≤ 255) : bits .or .i64 x (y * 256) = x + y * 256 := by
  obtain ⟨u, rfl⟩ := Int.eq_ofNat_of_zero_le hy.1
  obtain ⟨v, rfl⟩ := Int.eq_ofNat_of_zero_le hx.1
  have e1 : (u : Int) * 256 = ((u * 256 : Nat) : Int) := by omega
  have hu : u < 256 := by omega
  have hv : v < 256 := by omega
  rw [e1]
  show IntKind.i64.wrap ((BitVec.ofInt 64 (v : Int) ||| BitVec.ofInt 64 ((u * 256 : Nat) : Int)).toNat : Int) = _
  rw [BitVec.ofInt_natCast, BitVec.ofInt_natCast, BitVec.toNat_or, BitVec.toNat_ofNat, BitVec.toNat_ofNat, Nat.mod_eq_of_lt (by omega), Nat.mod_eq_of_lt (by omega), Nat.or_comm, show u * 256 = u <<< 8 from by rw [Nat.shiftLeft_eq], ← Nat.shiftLeft_add_eq_or_of_lt (by omega), Nat.shiftLeft_eq, wrap_i64 _ (by omega)]
  omega
theorem upN_range (bs : List Int) (p k : Nat) (hb : ∀ x ∈ bs, 0 ≤ x ∧ x ≤ 255) : ∀ m, 0 ≤ upN bs p k m ∧ upN bs p k m < 256 ^ m
  | 0 => ⟨Int.le_refl _, show (0 : Int) < 1 by decide⟩
  | m + 1 => by
    obtain ⟨h0, h1⟩ := upN_range bs p k hb m
    have hx : 0 ≤ bs.getD (p + (k - 1 - m)) 0 ∧ bs.getD (p + (k - 1 - m)) 0 ≤ 255 := by
      rw [List.getD_eq_getElem?_getD]
      rcases Nat.lt_or_ge (p + (k - 1 - m)) bs.length with g | g
      · rw [List.getElem?_eq_getElem g]; exact hb _ (List.getElem_mem g)
      · rw [List.getElem?_eq_none g]; decide
    have e : (256 : Int) ^ (m + 1) = 256 ^ m * 256 := Int.pow_succ 256 m
    constructor
    · show 0 ≤ _ * 256 + _; omega
    · show _ * 256 + _ < _; rw [e]; omega
theorem upN_small (bs : List Int) (p k : Nat) (hb : ∀ x ∈ bs, 0 ≤ x ∧ x ≤ 255) (m : Nat) (hm : m < 8) : 0 ≤ upN bs p k m ∧ upN bs p k m < 72057594037927936 := by
  obtain ⟨h0, h1⟩ := upN_range bs p k hb m
  refine ⟨h0, Int.lt_of_lt_of_le h1 ?_⟩
  have : (256 : Int) ^ m ≤ 256 ^ 7 := by
    have := Nat.pow_le_pow_right (n := 256) (by omega) (show m ≤ 7 by omega)
    have := Int.ofNat_le.mpr this
    rw [Int.natCast_pow, Int.natCast_pow] at this
    exact this
  exact this
def NumPost (Wz w : World) (g : Nat) (Ab : Option Addr) (cb : Nat) (bs : List Int) (nx k : Nat) (G : Int) (A : Option Addr) (n c B : Nat) (locs : Int) (e : Ending) (w' : World) : Prop :=
  e = (if nx + k ≤ bs.length then .returned (.int .i64 (wrap64 (upN bs nx k k))) else .panicked [{ v := stopV 11 bs.length, recovered := false }]) ∧ (nx + k ≤ bs.length → AskW w' g 80 (rdR Ab bs.length cb ((nx + k : Nat) : Int)) G A n c B locs nx) ∧ Below Wz.heap.size Wz w' ∧ KeepBut w w' g none
set_option maxRecDepth 100000 in
set_option maxHeartbeats 8000000 in
theorem number_rd (g : Nat) (k : Nat) (hk : 1 ≤ k ∧ k ≤ 8) (G : Int) (A : Option Addr) (n c B : Nat) (locs at_ : Int) (Ab : Option Addr) (cb : Nat) (bs : List Int) (nx : Nat) (Wz w : World) (hz : Below Wz.heap.size Wz w) (hg : Wz.heap.size ≤ g) (hA : AskW w g 80 (rdR Ab bs.length cb nx) G A n c B locs at_) (hB : kB.C Wz Ab bs.length bs) (hnx : nx ≤ bs.length) (hby : ∀ x ∈ bs, 0 ≤ x ∧ x ≤ 255) :
    Calls Tryd.prog 43 #[.pointer (some ⟨g, 0, none⟩), .int .i64 k] w fun e w' => NumPost Wz w g Ab cb bs nx k G A n c B locs e w' := by
  have HA := Aside0.mk hA
  have HZ := Aside0.mk hz
  have HG := Aside0.mk hg
  have HBs := Aside0.mk hB
  have HBy := Aside0.mk hby
  have hm : bs.length ≤ 9223372036854775807 := Kd.C_max hB
  obtain ⟨nb, hn⟩ : ∃ nb, nb = bs.length := ⟨_, rfl⟩
  have Hn := Aside0.mk hn
  have h5 : w.cell? ⟨g, 5, none⟩ = some (.slice Ab nb cb) := by rw [hn]; exact (blk_cell hA 5).trans rfl
  have h6 : w.cell? ⟨g, 6, none⟩ = some (.int .i64 nx) := (blk_cell hA 6).trans rfl
  have h4 : w.cell? ⟨g, 4, none⟩ = some (.int .i64 at_) := (blk_cell hA 4).trans rfl
  have hf4 := blk_frozen hA 4
  rw [← hn] at hm hnx
  clear hA hz hg hB hn hby
  go_enter Tryd.func43, Tryd.ntmps43
  go_wp2_with fail
  have HA1 := Aside0.mk (HA.out.set4 nb)
  have HZ1 : Aside0 (Below Wz.heap.size Wz (w.setCell ⟨g, 4, none⟩ (.int .i64 nb))) := ⟨below_set HZ.out HG.out⟩
  have HK1 : Aside0 (KeepBut w (w.setCell ⟨g, 4, none⟩ (.int .i64 nb)) g none) := ⟨(KeepBut.refl w g none).set_ 4 _⟩
  obtain ⟨w1, hw1⟩ : ∃ w1, w1 = w.setCell ⟨g, 4, none⟩ (.int .i64 nb) := ⟨_, rfl⟩
  rw [← hw1] at HA1 HZ1 HK1 ⊢
  clear hw1 h4 h5 h6 hf4
  have h5 : w1.cell? ⟨g, 5, none⟩ = some (.slice Ab nb cb) := by rw [Hn.out]; exact (blk_cell HA1.out 5).trans rfl
  have h6 : w1.cell? ⟨g, 6, none⟩ = some (.int .i64 nx) := (blk_cell HA1.out 6).trans rfl
  have H4 : Aside0 (w1.drew.cell? ⟨g, 4, none⟩ = some (.int .i64 nb)) := ⟨(blk_cell HA1.out 4).trans rfl⟩
  have hws : wrap64 ((nb : Int) - (nx : Int)) = (nb : Int) - (nx : Int) := wrap_in (by omega) (by omega)
  by_cases h0 : nx + k ≤ nb
  · have hc : decide ((k : Int) ≤ (nb : Int) - (nx : Int)) = true := decide_eq_true (by omega)
    refine start_ (n := 16) (S := fun w' => w'.cell? ⟨g, 5, none⟩ = some (.slice Ab nb cb) ∧ w'.cell? ⟨g, 6, none⟩ = some (.int .i64 nx)) (ds := []) #[false, false, false, false, false, false, false, false, false, false, false, false, false, false, false, false] (by kernel_rfl) rfl rfl ⟨h5, h6⟩ (fun hHeld => ?_)
    refine with_tabW TAB_43.tab2 TAB_43.bits2 (fun HT_ HW_ => ?_)
    refine pure_ (i := 0) (N := some 16) (v := ?_) (a' := ?_) #[true, false, false, false, false, false, false, false, false, false, false, false, false, false, false, false] rfl rfl (any_of HT_.out (by kernel_rfl)) (fun _ _ _ h => h) (Or.inl ⟨by rfl, ?_⟩) ?_ ?_
    rotate_left
    · intro w'
      go_simp
      with_reducible rfl
    rotate_left
    · simp only [Act.put, List.setIfInBounds_toArray, List.set_cons_zero, List.set_cons_succ, i64_w, i32_w]
      rfl
    refine pure_ (i := 1) (N := some 17) (v := ?_) (a' := ?_) #[true, true, false, false, false, false, false, false, false, false, false, false, false, false, false, false] rfl rfl (any_of HT_.out (by kernel_rfl)) (fun _ _ _ h => h) (Or.inl ⟨by rfl, ?_⟩) ?_ ?_
    rotate_left
    · intro w'
      go_simp
      with_reducible rfl
    rotate_left
    · simp only [Act.put, List.setIfInBounds_toArray, List.set_cons_zero, List.set_cons_succ, i64_w, i32_w]
      rfl
    refine pure_ (i := 2) (N := some 18) (v := ?_) (a' := ?_) #[true, true, true, false, false, false, false, false, false, false, false, false, false, false, false, false] rfl rfl (any_of HT_.out (by kernel_rfl)) (fun _ _ _ h => h) (Or.inl ⟨by rfl, ?_⟩) ?_ ?_
    rotate_left
    · intro w'
      go_simp
      with_reducible rfl
    rotate_left
    · simp only [Act.put, List.setIfInBounds_toArray, List.set_cons_zero, List.set_cons_succ, i64_w, i32_w]
      rfl
    refine pure_ (i := 3) (N := some 19) (v := ?_) (a' := ?_) #[true, true, true, true, false, false, false, false, false, false, false, false, false, false, false, false] rfl rfl (any_of HT_.out (by kernel_rfl)) (fun _ _ _ h => h) (Or.inl ⟨by rfl, ?_⟩) ?_ ?_
    rotate_left
    · intro w'
      go_simp
      with_reducible rfl
    rotate_left
    · simp only [Act.put, List.setIfInBounds_toArray, List.set_cons_zero, List.set_cons_succ, i64_w, i32_w]
      rfl
    refine pure_ (i := 4) (N := some 20) (v := ?_) (a' := ?_) #[true, true, true, true, true, false, false, false, false, false, false, false, false, false, false, false] rfl rfl (any_of HT_.out (by kernel_rfl)) (fun _ _ _ h => h) (Or.inl ⟨by rfl, ?_⟩) ?_ ?_
    rotate_left
    · intro w'
      go_simp
      with_reducible rfl
    rotate_left
    · simp only [Act.put, List.setIfInBounds_toArray, List.set_cons_zero, List.set_cons_succ, i64_w, i32_w]
      rfl
    refine pure_ (i := 5) (N := some 21) (v := ?_) (a' := ?_) #[true, true, true, true, true, true, false, false, false, false, false, false, false, false, false, false] rfl rfl (any_of HT_.out (by kernel_rfl)) (fun _ _ _ h => h) (Or.inl ⟨by rfl, ?_⟩) ?_ ?_
    rotate_left
    · intro w'
      go_simp
      with_reducible rfl
    rotate_left
    · simp only [Act.put, List.setIfInBounds_toArray, List.set_cons_zero, List.set_cons_succ, i64_w, i32_w]
      rfl
    refine pure_ (i := 8) (N := some 24) (v := ?_) (a' := ?_) #[true, true, true, true, true, true, false, false, true, false, false, false, false, false, false, false] rfl rfl (any_of HT_.out (by kernel_rfl)) (fun _ _ _ h => h) (Or.inl ⟨by rfl, ?_⟩) ?_ ?_
    rotate_left
    · intro w'
      go_simp
      with_reducible rfl
    rotate_left
    · simp only [Act.put, List.setIfInBounds_toArray, List.set_cons_zero, List.set_cons_succ, i64_w, i32_w]
      rfl
    refine pure_ (i := 9) (N := some 25) (v := ?_) (a' := ?_) #[true, true, true, true, true, true, false, false, true, true, false, false, false, false, false, false] rfl rfl (any_of HT_.out (by kernel_rfl)) (fun _ _ _ h => h) (Or.inl ⟨by rfl, ?_⟩) ?_ ?_
    rotate_left
    · intro w'
      go_simp
      with_reducible rfl
    rotate_left
    · simp only [Act.put, List.setIfInBounds_toArray, List.set_cons_zero, List.set_cons_succ, i64_w, i32_w]
      rfl
    refine pure_ (i := 10) (N := some 26) (v := ?_) (a' := ?_) #[true, true, true, true, true, true, false, false, true, true, true, false, false, false, false, false] rfl rfl (any_of HT_.out (by kernel_rfl)) (fun _ _ _ h => h) (Or.inl ⟨by rfl, ?_⟩) ?_ ?_
    rotate_left
    · intro w'
      go_simp
      with_reducible rfl
    rotate_left
    · simp only [Act.put, List.setIfInBounds_toArray, List.set_cons_zero, List.set_cons_succ, i64_w, i32_w]
      rfl
    refine pure_ (i := 13) (N := some 29) (v := ?_) (a' := ?_) #[true, true, true, true, true, true, false, false, true, true, true, false, false, true, false, false] rfl rfl (any_of HT_.out (by kernel_rfl)) (fun _ _ _ h => h) (Or.inl ⟨by rfl, ?_⟩) ?_ ?_
    rotate_left
    · intro w'
      go_simp
      with_reducible rfl
    rotate_left
    · simp only [Act.put, List.setIfInBounds_toArray, List.set_cons_zero, List.set_cons_succ, i64_w, i32_w]
      rfl
    refine take_ (i := 6) (N := some 22) (v := ?_) (a' := ?_) #[true, true, true, true, true, true, true, false, true, true, true, false, false, true, false, false] rfl rfl (take_ofW HT_.out HW_.out (by kernel_rfl)) (fun _ _ _ h => h) (Or.inl ⟨by rfl, ?_⟩) hHeld ?_ ?_
    rotate_left
    · rintro w' ⟨s0, s1⟩
      go_simp
      with_reducible rfl
    rotate_left
    · simp only [Act.put, List.setIfInBounds_toArray, List.set_cons_zero, List.set_cons_succ, i64_w, i32_w]
      rfl
    refine pure_ (i := 7) (N := some 23) (v := ?_) (a' := ?_) #[true, true, true, true, true, true, true, true, true, true, true, false, false, true, false, false] rfl rfl (any_of HT_.out (by kernel_rfl)) (fun _ _ _ h => h) (Or.inl ⟨by rfl, ?_⟩) ?_ ?_
    rotate_left
    · intro w'
      go_simp
      with_reducible rfl
    rotate_left
    · simp only [Act.put, List.setIfInBounds_toArray, List.set_cons_zero, List.set_cons_succ, i64_w, i32_w]
      rfl
    refine take_ (i := 11) (N := some 27) (v := ?_) (a' := ?_) #[true, true, true, true, true, true, true, true, true, true, true, true, false, true, false, false] rfl rfl (take_ofW HT_.out HW_.out (by kernel_rfl)) (fun _ _ _ h => h) (Or.inl ⟨by rfl, ?_⟩) hHeld ?_ ?_
    rotate_left
    · rintro w' ⟨s0, s1⟩
      go_simp
      with_reducible rfl
    rotate_left
    · simp only [Act.put, List.setIfInBounds_toArray, List.set_cons_zero, List.set_cons_succ, i64_w, i32_w]
      rfl
    refine pure_ (i := 12) (N := some 28) (v := ?_) (a' := ?_) #[true, true, true, true, true, true, true, true, true, true, true, true, true, true, false, false] rfl rfl (any_of HT_.out (by kernel_rfl)) (fun _ _ _ h => h) (Or.inl ⟨by rfl, ?_⟩) ?_ ?_
    rotate_left
    · intro w'
      go_simp
      with_reducible rfl
    rotate_left
    · simp only [Act.put, List.setIfInBounds_toArray, List.set_cons_zero, List.set_cons_succ, i64_w, i32_w]
      rfl
    refine pure_ (i := 14) (N := some 30) (v := ?_) (a' := ?_) #[true, true, true, true, true, true, true, true, true, true, true, true, true, true, true, false] rfl rfl (any_of HT_.out (by kernel_rfl)) (fun _ _ _ h => h) (Or.inl ⟨by rfl, ?_⟩) ?_ ?_
    rotate_left
    · intro w'
      go_simp
      with_reducible rfl
    rotate_left
    · simp only [Act.put, List.setIfInBounds_toArray, List.set_cons_zero, List.set_cons_succ, i64_w, i32_w]
      rfl
    refine one_ (i := 15) (N := some 31) #[true, true, true, true, true, true, true, true, true, true, true, true, true, true, true, true] rfl rfl (one_of HT_.out (by kernel_rfl)) (by decide) (fun K hK => ?_)
    refine goes_ Tryd.func42 (by kernel_rfl) rfl #[.pointer (some ⟨g, 0, none⟩), .bool true, .int .i64 11] (by rfl) rfl rfl (by simp only [List.map_toArray, List.map_cons, List.map_nil]; rfl) ?_
    with_reducible refine (must_true _ _ _).mono ?_
    rintro e_ wm ⟨rfl, rfl⟩
    refine ⟨_, rfl, ?_⟩
    refine hK.out _ _ ⟨h5, h6⟩ (fun hHeld => ?_)
    clear hK K
    refine norm_ (a' := ?_) ?_ ?_
    rotate_left
    · show Act.put _ (some 31) _ = _
      simp only [Act.put, List.setIfInBounds_toArray, List.set_cons_zero, List.set_cons_succ, i64_w, i32_w]
      rfl
    refine done_ (done_of HT_.out (by kernel_rfl)) ?_
    clear hHeld HT_ HW_ h5 h6 hc
    have HA2 : Aside0 (AskW w1.drew g 80 (rdR Ab bs.length cb nx) G A n c B locs nb) := ⟨HA1.out⟩
    have HZ2 : Aside0 (Below Wz.heap.size Wz w1.drew) := ⟨below_drew HZ1.out⟩
    have HK2 : Aside0 (KeepBut w w1.drew g none) := ⟨HK1.out⟩
    clear HA1 HZ1 HK1 H4
    obtain ⟨w2, hw2⟩ : ∃ w2, w2 = w1.drew := ⟨_, rfl⟩
    rw [← hw2] at HA2 HZ2 HK2 ⊢
    clear hw2 hws
    have h6 : w2.cell? ⟨g, 6, none⟩ = some (.int .i64 nx) := (blk_cell HA2.out 6).trans rfl
    have h4 : w2.cell? ⟨g, 4, none⟩ = some (.int .i64 nb) := (blk_cell HA2.out 4).trans rfl
    have hf4 := blk_frozen HA2.out 4
    have hf6 := blk_frozen HA2.out 6
    have hwn : wrap64 ((nx : Int) + (k : Int)) = (nx : Int) + (k : Int) := wrap_in (by omega) (by omega)
    have hwk : wrap64 ((k : Int) - 1) = (k : Int) - 1 := wrap_in (by omega) (by omega)
    go_wp2_with fail
    have HA4 := Aside0.mk ((HA2.out.set4 nx).set6 (.int .i64 ((nx : Int) + (k : Int))))
    have HZ4 : Aside0 (Below Wz.heap.size Wz ((w2.setCell ⟨g, 4, none⟩ (.int .i64 nx)).setCell ⟨g, 6, none⟩ (.int .i64 ((nx : Int) + (k : Int))))) := ⟨below_set (below_set HZ2.out HG.out) HG.out⟩
    have HK4 : Aside0 (KeepBut w ((w2.setCell ⟨g, 4, none⟩ (.int .i64 nx)).setCell ⟨g, 6, none⟩ (.int .i64 ((nx : Int) + (k : Int)))) g none) := ⟨(HK2.out.set_ 4 _).set_ 6 _⟩
    obtain ⟨w4, hw4⟩ : ∃ w4, w4 = (w2.setCell ⟨g, 4, none⟩ (.int .i64 nx)).setCell ⟨g, 6, none⟩ (.int .i64 ((nx : Int) + (k : Int))) := ⟨_, rfl⟩
    rw [← hw4] at HA4 HZ4 HK4 ⊢
    clear hw4 h6 h4 hf4 hf6 hwn hwk HA2 HZ2 HK2
    have Hk := Aside0.mk hk
    have H0 := Aside0.mk h0
    have hk8 : k ≤ 8 := hk.2
    have HA4' : Aside0 (AskW w4 g 80 (rdR Ab bs.length cb ((nx + k : Nat) : Int)) G A n c B locs nx) := ⟨by rw [show ((nx + k : Nat) : Int) = (nx : Int) + (k : Int) from Int.natCast_add nx k]; exact HA4.out⟩
    clear hHeld hk HA4
    go_loopw [5, 6] (fun v5 v6 w' => ∃ m : Nat, m ≤ k ∧ v6 = .int .i64 ((k : Int) - 1 - (m : Int)) ∧ v5 = .int .u64 (upN bs nx k m) ∧ Aside0 (AskW w' g 80 (rdR Ab bs.length cb ((nx + k : Nat) : Int)) G A n c B locs nx) ∧ Aside0 (Below Wz.heap.size Wz w') ∧ Aside0 (KeepBut w w' g none)) (fun _ i _ => (intOf i + 1).toNat)
    case atStart => exact ⟨0, Nat.zero_le _, by simp, rfl, HA4', HZ4, HK4⟩
    case round =>
      obtain ⟨m, hmk, rfl, rfl, HA5, HZ5, HK5⟩ := hrel
      clear HA4' HZ4 HK4
      by_cases hlt : m < k
      · obtain ⟨i, hi⟩ : ∃ i : Nat, i = k - 1 - m := ⟨_, rfl⟩
        have hie : (k : Int) - 1 - (m : Int) = (i : Int) := by omega
        obtain ⟨p, hp⟩ : ∃ p : Nat, p = nx + i := ⟨_, rfl⟩
        have hpe : wrap64 ((nx : Int) + (i : Int)) = (p : Int) := by rw [wrap_in (by omega) (by omega)]; omega
        have i0 : (0 : Int) ≤ (i : Int) := Int.natCast_nonneg i
        have p0 : (0 : Int) ≤ (p : Int) := Int.natCast_nonneg p
        have p1 : (p : Int) < (nb : Int) := by omega
        have hpl : p < bs.length := by rw [← Hn.out]; omega
        have hwi : wrap64 ((i : Int) - 1) = (i : Int) - 1 := wrap_in (by omega) (by omega)
        obtain ⟨ad, e0, hrx⟩ := Kd.at_int (Kd.C_below HBs.out HZ5.out) (p : Int) p0 (by rw [← Hn.out]; exact p1)
        cases e0
        simp only [Int.toNat_natCast] at hrx
        rw [rd_at bs p hpl] at hrx
        have hbx := HBy.out bs[p] (List.getElem_mem hpl)
        have HX : Aside0 (upN bs nx k (m + 1) = upN bs nx k m * 256 + bs[p]) := ⟨by show _ + bs.getD (nx + (k - 1 - m)) 0 = _; rw [← hi, ← hp, List.getD_eq_getElem?_getD, List.getElem?_eq_getElem hpl]; rfl⟩
        obtain ⟨x, hx⟩ : ∃ x, x = bs[p] := ⟨_, rfl⟩
        rw [← hx] at hrx hbx HX
        obtain ⟨U, hU⟩ : ∃ U, U = upN bs nx k m := ⟨_, rfl⟩
        have HU := Aside0.mk hU
        rw [← hU] at HX ⊢
        rw [hie]
        have hie2 := hie
        clear hx hU hi hie hp hpl
        have h5 : wr.cell? ⟨g, 5, none⟩ = some (.slice (some ad) nb cb) := by rw [Hn.out]; exact (blk_cell HA5.out 5).trans rfl
        have h4 : wr.cell? ⟨g, 4, none⟩ = some (.int .i64 nx) := (blk_cell HA5.out 4).trans rfl
        go_wp2_with fail
        refine start_ (n := 18) (S := fun w' => w'.cell? ⟨g, 5, none⟩ = some (.slice (some ad) nb cb) ∧ w'.cell? ⟨g, 4, none⟩ = some (.int .i64 nx) ∧ w'.cell? (ad.add p) = some (.int .u8 x)) (ds := []) #[false, false, false, false, false, false, false, false, false, false, false, false, false, false, false, false, false, false] (by kernel_rfl) rfl rfl ⟨h5, h4, hrx⟩ (fun hHeld => ?_)
        refine with_tabW TAB_43.tab9 TAB_43.bits9 (fun HT_ HW_ => ?_)
        refine pure_ (i := 0) (N := some 54) (v := ?_) (a' := ?_) #[true, false, false, false, false, false, false, false, false, false, false, false, false, false, false, false, false, false] rfl rfl (any_of HT_.out (by kernel_rfl)) (fun _ _ _ h => h) (Or.inl ⟨by rfl, ?_⟩) ?_ ?_
        rotate_left
        · intro w'
          go_simp
          with_reducible rfl
        rotate_left
        · simp only [Act.put, List.setIfInBounds_toArray, List.set_cons_zero, List.set_cons_succ, i64_w, i32_w]
          rfl
        refine pure_ (i := 1) (N := some 55) (v := ?_) (a' := ?_) #[true, true, false, false, false, false, false, false, false, false, false, false, false, false, false, false, false, false] rfl rfl (any_of HT_.out (by kernel_rfl)) (fun _ _ _ h => h) (Or.inl ⟨by rfl, ?_⟩) ?_ ?_
        rotate_left
        · intro w'
          go_simp
          with_reducible rfl
        rotate_left
        · simp only [Act.put, List.setIfInBounds_toArray, List.set_cons_zero, List.set_cons_succ, i64_w, i32_w]
          rfl
        refine pure_ (i := 2) (N := some 56) (v := ?_) (a' := ?_) #[true, true, true, false, false, false, false, false, false, false, false, false, false, false, false, false, false, false] rfl rfl (any_of HT_.out (by kernel_rfl)) (fun _ _ _ h => h) (Or.inl ⟨by rfl, ?_⟩) ?_ ?_
        rotate_left
        · intro w'
          go_simp
          with_reducible rfl
        rotate_left
        · simp only [Act.put, List.setIfInBounds_toArray, List.set_cons_zero, List.set_cons_succ, i64_w, i32_w]
          rfl
        refine pure_ (i := 3) (N := some 57) (v := ?_) (a' := ?_) #[true, true, true, true, false, false, false, false, false, false, false, false, false, false, false, false, false, false] rfl rfl (any_of HT_.out (by kernel_rfl)) (fun _ _ _ h => h) (Or.inl ⟨by rfl, ?_⟩) ?_ ?_
        rotate_left
        · intro w'
          go_simp
          with_reducible rfl
        rotate_left
        · simp only [Act.put, List.setIfInBounds_toArray, List.set_cons_zero, List.set_cons_succ, i64_w, i32_w]
          rfl
        refine pure_ (i := 4) (N := some 58) (v := ?_) (a' := ?_) #[true, true, true, true, true, false, false, false, false, false, false, false, false, false, false, false, false, false] rfl rfl (any_of HT_.out (by kernel_rfl)) (fun _ _ _ h => h) (Or.inl ⟨by rfl, ?_⟩) ?_ ?_
        rotate_left
        · intro w'
          go_simp
          with_reducible rfl
        rotate_left
        · simp only [Act.put, List.setIfInBounds_toArray, List.set_cons_zero, List.set_cons_succ, i64_w, i32_w]
          rfl
        refine pure_ (i := 6) (N := some 60) (v := ?_) (a' := ?_) #[true, true, true, true, true, false, true, false, false, false, false, false, false, false, false, false, false, false] rfl rfl (any_of HT_.out (by kernel_rfl)) (fun _ _ _ h => h) (Or.inl ⟨by rfl, ?_⟩) ?_ ?_
        rotate_left
        · intro w'
          go_simp
          with_reducible rfl
        rotate_left
        · simp only [Act.put, List.setIfInBounds_toArray, List.set_cons_zero, List.set_cons_succ, i64_w, i32_w]
          rfl
        refine pure_ (i := 7) (N := some 61) (v := ?_) (a' := ?_) #[true, true, true, true, true, false, true, true, false, false, false, false, false, false, false, false, false, false] rfl rfl (any_of HT_.out (by kernel_rfl)) (fun _ _ _ h => h) (Or.inl ⟨by rfl, ?_⟩) ?_ ?_
        rotate_left
        · intro w'
          go_simp
          with_reducible rfl
        rotate_left
        · simp only [Act.put, List.setIfInBounds_toArray, List.set_cons_zero, List.set_cons_succ, i64_w, i32_w]
          rfl
        refine pure_ (i := 8) (N := some 62) (v := ?_) (a' := ?_) #[true, true, true, true, true, false, true, true, true, false, false, false, false, false, false, false, false, false] rfl rfl (any_of HT_.out (by kernel_rfl)) (fun _ _ _ h => h) (Or.inl ⟨by rfl, ?_⟩) ?_ ?_
        rotate_left
        · intro w'
          go_simp
          with_reducible rfl
        rotate_left
        · simp only [Act.put, List.setIfInBounds_toArray, List.set_cons_zero, List.set_cons_succ, i64_w, i32_w]
          rfl
        refine pure_ (i := 9) (N := some 63) (v := ?_) (a' := ?_) #[true, true, true, true, true, false, true, true, true, true, false, false, false, false, false, false, false, false] rfl rfl (any_of HT_.out (by kernel_rfl)) (fun _ _ _ h => h) (Or.inl ⟨by rfl, ?_⟩) ?_ ?_
        rotate_left
        · intro w'
          go_simp
          with_reducible rfl
        rotate_left
        · simp only [Act.put, List.setIfInBounds_toArray, List.set_cons_zero, List.set_cons_succ, i64_w, i32_w]
          rfl
        refine pure_ (i := 11) (N := some 65) (v := ?_) (a' := ?_) #[true, true, true, true, true, false, true, true, true, true, false, true, false, false, false, false, false, false] rfl rfl (any_of HT_.out (by kernel_rfl)) (fun _ _ _ h => h) (Or.inl ⟨by rfl, ?_⟩) ?_ ?_
        rotate_left
        · intro w'
          go_simp
          with_reducible rfl
        rotate_left
        · simp only [Act.put, List.setIfInBounds_toArray, List.set_cons_zero, List.set_cons_succ, i64_w, i32_w]
          rfl
        refine take_ (i := 5) (N := some 59) (v := ?_) (a' := ?_) #[true, true, true, true, true, true, true, true, true, true, false, true, false, false, false, false, false, false] rfl rfl (take_ofW HT_.out HW_.out (by kernel_rfl)) (fun _ _ _ h => h) (Or.inl ⟨by rfl, ?_⟩) hHeld ?_ ?_
        rotate_left
        · rintro w' ⟨s0, s1, s2⟩
          go_simp
          with_reducible rfl
        rotate_left
        · simp only [Act.put, List.setIfInBounds_toArray, List.set_cons_zero, List.set_cons_succ, i64_w, i32_w]
          rfl
        refine take_ (i := 10) (N := some 64) (v := ?_) (a' := ?_) #[true, true, true, true, true, true, true, true, true, true, true, true, false, false, false, false, false, false] rfl rfl (take_ofW HT_.out HW_.out (by kernel_rfl)) (fun _ _ _ h => h) (Or.inl ⟨by rfl, ?_⟩) hHeld ?_ ?_
        rotate_left
        · rintro w' ⟨s0, s1, s2⟩
          go_simp
          with_reducible rfl
        rotate_left
        · simp only [Act.put, List.setIfInBounds_toArray, List.set_cons_zero, List.set_cons_succ, i64_w, i32_w]
          rfl
        refine pure_ (i := 12) (N := some 66) (v := ?_) (a' := ?_) #[true, true, true, true, true, true, true, true, true, true, true, true, true, false, false, false, false, false] rfl rfl (any_of HT_.out (by kernel_rfl)) (fun _ _ _ h => h) (Or.inl ⟨by rfl, ?_⟩) ?_ ?_
        rotate_left
        · intro w'
          go_simp
          with_reducible rfl
        rotate_left
        · simp only [Act.put, List.setIfInBounds_toArray, List.set_cons_zero, List.set_cons_succ, i64_w, i32_w]
          rfl
        refine pure_ (i := 13) (N := some 67) (v := ?_) (a' := ?_) #[true, true, true, true, true, true, true, true, true, true, true, true, true, true, false, false, false, false] rfl rfl (any_of HT_.out (by kernel_rfl)) (fun _ _ _ h => h) (Or.inl ⟨by rfl, ?_⟩) ?_ ?_
        rotate_left
        · intro w'
          go_simp
          with_reducible rfl
        rotate_left
        · simp only [Act.put, List.setIfInBounds_toArray, List.set_cons_zero, List.set_cons_succ, i64_w, i32_w]
          rfl
        refine take_ (i := 14) (N := some 68) (v := ?_) (a' := ?_) #[true, true, true, true, true, true, true, true, true, true, true, true, true, true, true, false, false, false] rfl rfl (take_ofW HT_.out HW_.out (by kernel_rfl)) (fun _ _ _ h => h) (Or.inl ⟨by rfl, ?_⟩) hHeld ?_ ?_
        rotate_left
        · rintro w' ⟨s0, s1, s2⟩
          go_simp
          with_reducible rfl
        rotate_left
        · simp only [Act.put, List.setIfInBounds_toArray, List.set_cons_zero, List.set_cons_succ, i64_w, i32_w]
          rfl
        refine pure_ (i := 15) (N := some 69) (v := ?_) (a' := ?_) #[true, true, true, true, true, true, true, true, true, true, true, true, true, true, true, true, false, false] rfl rfl (any_of HT_.out (by kernel_rfl)) (fun _ _ _ h => h) (Or.inl ⟨by rfl, ?_⟩) ?_ ?_
        rotate_left
        · intro w'
          go_simp
          with_reducible rfl
        rotate_left
        · simp only [Act.put, List.setIfInBounds_toArray, List.set_cons_zero, List.set_cons_succ, i64_w, i32_w]
          rfl
        refine pure_ (i := 16) (N := some 70) (v := ?_) (a' := ?_) #[true, true, true, true, true, true, true, true, true, true, true, true, true, true, true, true, true, false] rfl rfl (any_of HT_.out (by kernel_rfl)) (fun _ _ _ h => h) (Or.inl ⟨by rfl, ?_⟩) ?_ ?_
        rotate_left
        · intro w'
          go_simp
          with_reducible rfl
        rotate_left
        · simp only [Act.put, List.setIfInBounds_toArray, List.set_cons_zero, List.set_cons_succ, i64_w, i32_w]
          rfl
        refine pure_ (i := 17) (N := some 5) (v := ?_) (a' := ?_) #[true, true, true, true, true, true, true, true, true, true, true, true, true, true, true, true, true, true] rfl rfl (any_of HT_.out (by kernel_rfl)) (fun _ _ _ h => h) (Or.inl ⟨by rfl, ?_⟩) ?_ ?_
        rotate_left
        · intro w'
          go_simp
          with_reducible rfl
        rotate_left
        · simp only [Act.put, List.setIfInBounds_toArray, List.set_cons_zero, List.set_cons_succ, i64_w, i32_w]
          rfl
        refine done_ (done_of HT_.out (by kernel_rfl)) ?_
        clear hHeld HT_ HW_ h5 h4 hrx
        have HA6 : Aside0 (AskW wr.drew g 80 (rdR (some ad) bs.length cb ((nx + k : Nat) : Int)) G A n c B locs nx) := ⟨HA5.out⟩
        have HZ6 : Aside0 (Below Wz.heap.size Wz wr.drew) := ⟨below_drew HZ5.out⟩
        have HK6 : Aside0 (KeepBut w wr.drew g none) := ⟨HK5.out⟩
        have HO : bits .or .u64 (IntKind.u64.wrap (U * 256)) (IntKind.u64.wrap x) = upN bs nx k (m + 1) := by rw [HX.out]; exact or_bytes U x (by rw [HU.out]; exact upN_small bs nx k HBy.out m (by omega)) hbx
        rw [HO]
        clear HO
        go_wp2_with fail
        go_roundw
        case rel => exact ⟨m + 1, by omega, by rw [show (k : Int) - 1 - ((m + 1 : Nat) : Int) = (i : Int) - 1 from by omega], rfl, HA6, HZ6, HK6⟩
        case measure => first | (simp [intOf]; done) | (simp [intOf]; omega)
      · obtain rfl : k = m := by omega
        have hneg : decide ((0 : Int) ≤ (k : Int) - 1 - (k : Int)) = false := decide_eq_false (by omega)
        go_wp2_with fail
        go_ret
        exact ⟨by rw [if_pos (by rw [← Hn.out]; exact H0.out)]; rfl, fun _ => HA5.out, HZ5.out, HK5.out⟩
  · have hc : decide ((k : Int) ≤ (nb : Int) - (nx : Int)) = false := decide_eq_false (by omega)
    refine start_ (n := 16) (S := fun w' => w'.cell? ⟨g, 5, none⟩ = some (.slice Ab nb cb) ∧ w'.cell? ⟨g, 6, none⟩ = some (.int .i64 nx)) (ds := []) #[false, false, false, false, false, false, false, false, false, false, false, false, false, false, false, false] (by kernel_rfl) rfl rfl ⟨h5, h6⟩ (fun hHeld => ?_)
    refine with_tabW TAB_43.tab2 TAB_43.bits2 (fun HT_ HW_ => ?_)
    refine pure_ (i := 0) (N := some 16) (v := ?_) (a' := ?_) #[true, false, false, false, false, false, false, false, false, false, false, false, false, false, false, false] rfl rfl (any_of HT_.out (by kernel_rfl)) (fun _ _ _ h => h) (Or.inl ⟨by rfl, ?_⟩) ?_ ?_
    rotate_left
    · intro w'
      go_simp
      with_reducible rfl
    rotate_left
    · simp only [Act.put, List.setIfInBounds_toArray, List.set_cons_zero, List.set_cons_succ, i64_w, i32_w]
      rfl
    refine pure_ (i := 1) (N := some 17) (v := ?_) (a' := ?_) #[true, true, false, false, false, false, false, false, false, false, false, false, false, false, false, false] rfl rfl (any_of HT_.out (by kernel_rfl)) (fun _ _ _ h => h) (Or.inl ⟨by rfl, ?_⟩) ?_ ?_
    rotate_left
    · intro w'
      go_simp
      with_reducible rfl
    rotate_left
    · simp only [Act.put, List.setIfInBounds_toArray, List.set_cons_zero, List.set_cons_succ, i64_w, i32_w]
      rfl
    refine pure_ (i := 2) (N := some 18) (v := ?_) (a' := ?_) #[true, true, true, false, false, false, false, false, false, false, false, false, false, false, false, false] rfl rfl (any_of HT_.out (by kernel_rfl)) (fun _ _ _ h => h) (Or.inl ⟨by rfl, ?_⟩) ?_ ?_
    rotate_left
    · intro w'
      go_simp
      with_reducible rfl
    rotate_left
    · simp only [Act.put, List.setIfInBounds_toArray, List.set_cons_zero, List.set_cons_succ, i64_w, i32_w]
      rfl
    refine pure_ (i := 3) (N := some 19) (v := ?_) (a' := ?_) #[true, true, true, true, false, false, false, false, false, false, false, false, false, false, false, false] rfl rfl (any_of HT_.out (by kernel_rfl)) (fun _ _ _ h => h) (Or.inl ⟨by rfl, ?_⟩) ?_ ?_
    rotate_left
    · intro w'
      go_simp
      with_reducible rfl
    rotate_left
    · simp only [Act.put, List.setIfInBounds_toArray, List.set_cons_zero, List.set_cons_succ, i64_w, i32_w]
      rfl
    refine pure_ (i := 4) (N := some 20) (v := ?_) (a' := ?_) #[true, true, true, true, true, false, false, false, false, false, false, false, false, false, false, false] rfl rfl (any_of HT_.out (by kernel_rfl)) (fun _ _ _ h => h) (Or.inl ⟨by rfl, ?_⟩) ?_ ?_
    rotate_left
    · intro w'
      go_simp
      with_reducible rfl
    rotate_left
    · simp only [Act.put, List.setIfInBounds_toArray, List.set_cons_zero, List.set_cons_succ, i64_w, i32_w]
      rfl
    refine pure_ (i := 5) (N := some 21) (v := ?_) (a' := ?_) #[true, true, true, true, true, true, false, false, false, false, false, false, false, false, false, false] rfl rfl (any_of HT_.out (by kernel_rfl)) (fun _ _ _ h => h) (Or.inl ⟨by rfl, ?_⟩) ?_ ?_
    rotate_left
    · intro w'
      go_simp
      with_reducible rfl
    rotate_left
    · simp only [Act.put, List.setIfInBounds_toArray, List.set_cons_zero, List.set_cons_succ, i64_w, i32_w]
      rfl
    refine pure_ (i := 8) (N := some 24) (v := ?_) (a' := ?_) #[true, true, true, true, true, true, false, false, true, false, false, false, false, false, false, false] rfl rfl (any_of HT_.out (by kernel_rfl)) (fun _ _ _ h => h) (Or.inl ⟨by rfl, ?_⟩) ?_ ?_
    rotate_left
    · intro w'
      go_simp
      with_reducible rfl
    rotate_left
    · simp only [Act.put, List.setIfInBounds_toArray, List.set_cons_zero, List.set_cons_succ, i64_w, i32_w]
      rfl
    refine pure_ (i := 9) (N := some 25) (v := ?_) (a' := ?_) #[true, true, true, true, true, true, false, false, true, true, false, false, false, false, false, false] rfl rfl (any_of HT_.out (by kernel_rfl)) (fun _ _ _ h => h) (Or.inl ⟨by rfl, ?_⟩) ?_ ?_
    rotate_left
    · intro w'
      go_simp
      with_reducible rfl
    rotate_left
    · simp only [Act.put, List.setIfInBounds_toArray, List.set_cons_zero, List.set_cons_succ, i64_w, i32_w]
      rfl
    refine pure_ (i := 10) (N := some 26) (v := ?_) (a' := ?_) #[true, true, true, true, true, true, false, false, true, true, true, false, false, false, false, false] rfl rfl (any_of HT_.out (by kernel_rfl)) (fun _ _ _ h => h) (Or.inl ⟨by rfl, ?_⟩) ?_ ?_
    rotate_left
    · intro w'
      go_simp
      with_reducible rfl
    rotate_left
    · simp only [Act.put, List.setIfInBounds_toArray, List.set_cons_zero, List.set_cons_succ, i64_w, i32_w]
      rfl
    refine pure_ (i := 13) (N := some 29) (v := ?_) (a' := ?_) #[true, true, true, true, true, true, false, false, true, true, true, false, false, true, false, false] rfl rfl (any_of HT_.out (by kernel_rfl)) (fun _ _ _ h => h) (Or.inl ⟨by rfl, ?_⟩) ?_ ?_
    rotate_left
    · intro w'
      go_simp
      with_reducible rfl
    rotate_left
    · simp only [Act.put, List.setIfInBounds_toArray, List.set_cons_zero, List.set_cons_succ, i64_w, i32_w]
      rfl
    refine take_ (i := 6) (N := some 22) (v := ?_) (a' := ?_) #[true, true, true, true, true, true, true, false, true, true, true, false, false, true, false, false] rfl rfl (take_ofW HT_.out HW_.out (by kernel_rfl)) (fun _ _ _ h => h) (Or.inl ⟨by rfl, ?_⟩) hHeld ?_ ?_
    rotate_left
    · rintro w' ⟨s0, s1⟩
      go_simp
      with_reducible rfl
    rotate_left
    · simp only [Act.put, List.setIfInBounds_toArray, List.set_cons_zero, List.set_cons_succ, i64_w, i32_w]
      rfl
    refine pure_ (i := 7) (N := some 23) (v := ?_) (a' := ?_) #[true, true, true, true, true, true, true, true, true, true, true, false, false, true, false, false] rfl rfl (any_of HT_.out (by kernel_rfl)) (fun _ _ _ h => h) (Or.inl ⟨by rfl, ?_⟩) ?_ ?_
    rotate_left
    · intro w'
      go_simp
      with_reducible rfl
    rotate_left
    · simp only [Act.put, List.setIfInBounds_toArray, List.set_cons_zero, List.set_cons_succ, i64_w, i32_w]
      rfl
    refine take_ (i := 11) (N := some 27) (v := ?_) (a' := ?_) #[true, true, true, true, true, true, true, true, true, true, true, true, false, true, false, false] rfl rfl (take_ofW HT_.out HW_.out (by kernel_rfl)) (fun _ _ _ h => h) (Or.inl ⟨by rfl, ?_⟩) hHeld ?_ ?_
    rotate_left
    · rintro w' ⟨s0, s1⟩
      go_simp
      with_reducible rfl
    rotate_left
    · simp only [Act.put, List.setIfInBounds_toArray, List.set_cons_zero, List.set_cons_succ, i64_w, i32_w]
      rfl
    refine pure_ (i := 12) (N := some 28) (v := ?_) (a' := ?_) #[true, true, true, true, true, true, true, true, true, true, true, true, true, true, false, false] rfl rfl (any_of HT_.out (by kernel_rfl)) (fun _ _ _ h => h) (Or.inl ⟨by rfl, ?_⟩) ?_ ?_
    rotate_left
    · intro w'
      go_simp
      with_reducible rfl
    rotate_left
    · simp only [Act.put, List.setIfInBounds_toArray, List.set_cons_zero, List.set_cons_succ, i64_w, i32_w]
      rfl
    refine pure_ (i := 14) (N := some 30) (v := ?_) (a' := ?_) #[true, true, true, true, true, true, true, true, true, true, true, true, true, true, true, false] rfl rfl (any_of HT_.out (by kernel_rfl)) (fun _ _ _ h => h) (Or.inl ⟨by rfl, ?_⟩) ?_ ?_
    rotate_left
    · intro w'
      go_simp
      with_reducible rfl
    rotate_left
    · simp only [Act.put, List.setIfInBounds_toArray, List.set_cons_zero, List.set_cons_succ, i64_w, i32_w]
      rfl
    refine one_ (i := 15) (N := some 31) #[true, true, true, true, true, true, true, true, true, true, true, true, true, true, true, true] rfl rfl (one_of HT_.out (by kernel_rfl)) (by decide) (fun K hK => ?_)
    refine goesP_ Tryd.func42 (by kernel_rfl) rfl #[.pointer (some ⟨g, 0, none⟩), .bool false, .int .i64 11] (by rfl) rfl rfl (by simp only [List.map_toArray, List.map_cons, List.map_nil]; rfl) ?_
    with_reducible refine (must_false _ _ _ _ H4.out).mono ?_
    rintro e_ wm ⟨rfl, rfl⟩
    refine ⟨_, rfl, ?_⟩
    exact ⟨rfl, by rw [← Hn.out, if_neg h0], fun h => absurd (Hn.out ▸ h) h0, below_drew HZ1.out, HK1.out⟩
end Go.Proofs.YteonppgdmhakoaaDoor.PC
namespace Go.Proofs.YteonppgdmhakoaaDoor.PC
open Go.RowKit Go.Proofs.YteonppgdmhakoaaDoorW.PrintWords Go.Proofs.YteonppgdmhakoaaDoorW.PrintLast Go.Proofs.YteonppgdmhakoaaDoorW.PrintMore
attribute [local go_sem] max2_int min2_int max_two min_two
set_option linter.unusedVariables false
set_option linter.unusedSimpArgs false
def TAB_46.T2 : Bool × List (List Nat × List Nat) := (true, [([], []), ([0], [0]), ([1], [1]), ([2], [2]), ([], []), ([4], [4]), ([5], [5]), ([6], [6]), ([7], [7]), ([], []), ([9], [9]), ([10], [10]), ([11], [11]), ([3, 8, 12], [3, 8, 12]), ([13, 0, 1, 2, 3, 4, 5, 6, 7, 8, 9, 10, 11, 12, 13], [13])])
def TAB_46.B2 : List Nat := [0, 1, 3, 7, 0, 16, 48, 112, 240, 0, 512, 1536, 3584, 8191, 16383]
theorem TAB_46.tab2 : rtab .any (opsOf Tryd.f46 2) = TAB_46.T2 := by kernel_rfl
theorem TAB_46.bits2 : waitsOk TAB_46.T2.2 TAB_46.B2 = true := by kernel_rfl
def TAB_46.T3 : Bool × List (List Nat × List Nat) := (true, [([], []), ([0], [0]), ([1], [1]), ([2], [2]), ([], []), ([4], [4]), ([5], [5]), ([6], [6]), ([], []), ([8], [8]), ([9], [9]), ([10], [10]), ([3, 7, 11], [3, 7, 11]), ([], []), ([13, 12, 0, 1, 2, 3, 4, 5, 6, 7, 8, 9, 10, 11, 12, 13], [12, 13])])
def TAB_46.B3 : List Nat := [0, 1, 3, 7, 0, 16, 48, 112, 0, 256, 768, 1792, 4095, 0, 16383]
theorem TAB_46.tab3 : rtab .any (opsOf Tryd.f46 3) = TAB_46.T3 := by kernel_rfl
theorem TAB_46.bits3 : waitsOk TAB_46.T3.2 TAB_46.B3 = true := by kernel_rfl
def TAB_46.T4 : Bool × List (List Nat × List Nat) := (true, [([], []), ([0], [0]), ([1], [1]), ([2], [2]), ([], []), ([4], [4]), ([5], [5]), ([6], [6]), ([7], [7]), ([3, 8], [3, 8]), ([9, 0, 1, 2, 3, 4, 5, 6, 7, 8, 9], [9])])
def TAB_46.B4 : List Nat := [0, 1, 3, 7, 0, 16, 48, 112, 240, 511, 1023]
theorem TAB_46.tab4 : rtab .any (opsOf Tryd.f46 4) = TAB_46.T4 := by kernel_rfl
theorem TAB_46.bits4 : waitsOk TAB_46.T4.2 TAB_46.B4 = true := by kernel_rfl
def TAB_46.T6 : Bool × List (List Nat × List Nat) := (true, [([], []), ([], []), ([1], [1]), ([2], [2]), ([3], [3]), ([4], [4]), ([5], [5]), ([], []), ([7], [7]), ([6, 8], [6, 8]), ([0, 0, 1, 2, 3, 4, 5, 6, 7, 8, 9], [0]), ([10, 0, 1, 2, 3, 4, 5, 6, 7, 8, 9], [10]), ([11, 0, 1, 2, 3, 4, 5, 6, 7, 8, 9], [11]), ([12, 0, 1, 2, 3, 4, 5, 6, 7, 8, 9], [12]), ([13, 9, 9, 0, 1, 2, 3, 4, 5, 6, 7, 8, 9], [9, 13])])
def TAB_46.B6 : List Nat := [0, 0, 2, 6, 14, 30, 62, 0, 128, 510, 1023, 2047, 4095, 8191, 16383]
theorem TAB_46.tab6 : rtab .any (opsOf Tryd.f46 6) = TAB_46.T6 := by kernel_rfl
theorem TAB_46.bits6 : waitsOk TAB_46.T6.2 TAB_46.B6 = true := by kernel_rfl
structure HV where
  P : Int
  R : Int
  V : Int
  c : Value
  one : c.oneCell' = true
def HV.enc (x : HV) : List Value := [.int .i64 x.P, .int .i64 x.R, .int .i64 x.V, x.c]
def kH : Kd HV where
  sz := 4
  E := []
  K := fun _ x cs => cs = x.enc
  M := fun _ _ _ x cs => cs = x.enc
  K_len := fun h => by subst h; rfl
  K_one := fun {_ x _} h u hu => by
    subst h
    simp only [HV.enc, List.mem_cons, List.not_mem_nil, or_false] at hu
    rcases hu with rfl | rfl | rfl | rfl
    · rfl
    · rfl
    · rfl
    · exact x.one
  K_below := fun _ h => h
  K_of_M := fun h => h
  M_mono := fun _ h => h
  M_bound := fun h => h
  M_move := fun _ h => h
  M_lower := fun _ h => h
def KeepT (ts : List TypeId) (g : Nat) (w w' : World) : Prop := ∀ (k : Nat) (cs : Array Value) (t : TypeId), t ∉ ts → k ≠ g → w.heap[k]? = some (Obj.cells cs t (0, 0)) → w'.heap[k]? = some (Obj.cells cs t (0, 0))
theorem KeepT.refl (ts : List TypeId) (g : Nat) (w : World) : KeepT ts g w w := fun _ _ _ _ _ h => h
theorem KeepT.trans {ts : List TypeId} {g : Nat} {a b c : World} (h : KeepT ts g a b) (h' : KeepT ts g b c) : KeepT ts g a c := fun k cs t ht hk hc => h' k cs t ht hk (h k cs t ht hk hc)
theorem KeepT.of_keep {ts : List TypeId} {g : Nat} {w w' : World} (h : KeepBut w w' g none) : KeepT ts g w w' := fun k cs t _ hk hc => h.blk hc hk (by simp)
theorem KeepT.row {α : Type} {d : Kd α} {ts : List TypeId} {e g base : Nat} {ok : Nat → Prop} {w w' : World} {v : Value} {xs : List α} (h : KeepT ts g w w') (hO : d.R e w base ok v xs) (ht : ∀ q, q ∈ e :: d.E → q ∉ ts) (hok : ∀ k, ok k → k ≠ g) : d.R e w' base ok v xs := by
  refine Kd.R_mono (Kd.R_move (Kd.R_bound hO) fun k hk => ?_) (fun _ hk => hk.1)
  obtain ⟨h1, _, _, q, hq, cells, hc⟩ := hk
  rw [hc]
  exact h k cells q (ht q hq) (hok k h1) hc
theorem KeepT.grown {α : Type} {d : Kd α} {ts : List TypeId} {e g base : Nat} {ok : Nat → Prop} {w w' : World} {v : Value} {xs : List α} (hO : d.R e w base ok v xs) (he : e ∈ ts) (hg : w.grownBy w' v.ownBlock) : KeepT ts g w w' := fun k cs t ht hk hc => by
  obtain ⟨_, inner, ho, _⟩ := hO
  refine blk_grown hc hg fun e' => ?_
  obtain ⟨cells, hc2⟩ := own_typed ho k e'.symm
  rw [hc] at hc2
  injection hc2 with hc2
  injection hc2 with _ hc2
  exact ht (hc2 ▸ he)
def hvOf (bs : List Int) (nx : Nat) : HV := ⟨bs.getD nx 0, bs.getD (nx + 1) 0, bs.getD (nx + 2) 0, .slice none 0 0, rfl⟩
def hvN (bs : List Int) (nx : Nat) : Int := bs.getD (nx + 3) 0 + bs.getD (nx + 4) 0 * 256
def hvE (bs : List Int) (nx : Nat) (locs : Int) : Int := headE locs (hvOf bs nx).P (hvOf bs nx).R (hvOf bs nx).V (hvN bs nx)
def HeadRd (Wz wp w : World) (g : Nat) (Ab : Option Addr) (cb : Nat) (bs : List Int) (nx : Nat) (G : Int) (hs : List HV) (B : Nat) (locs : Int) (e : Ending) (w' : World) : Prop :=
  e = (if nx + 5 ≤ bs.length then (if hvE bs nx locs = 0 then .returned (.int .i64 (hvN bs nx)) else .panicked [{ v := stopV (hvE bs nx locs) nx, recovered := false }]) else .panicked [{ v := stopV 11 bs.length, recovered := false }]) ∧
  (nx + 5 ≤ bs.length → hvE bs nx locs = 0 → ∃ A' c', AskW w' g 80 (rdR Ab bs.length cb ((nx + 5 : Nat) : Int)) G A' (hs.length + 1) c' B (locs + (hvOf bs nx).V) nx ∧ kH.R 46 w' wp.heap.size (fun k => wp.heap.size ≤ k) (.slice A' (hs.length + 1) c') (hs ++ [hvOf bs nx])) ∧
  Below Wz.heap.size Wz w' ∧ KeepBut wp w' g none ∧ KeepT [46] g w w'
set_option maxRecDepth 100000 in
set_option maxHeartbeats 8000000 in
theorem head_rd (g : Nat) (G : Int) (A : Option Addr) (c B : Nat) (locs at_ : Int) (Ab : Option Addr) (cb : Nat) (bs : List Int) (nx : Nat) (Wz wp w : World) (hs : List HV) (hz : Below Wz.heap.size Wz w) (hg : Wz.heap.size ≤ g) (hgp : g < wp.heap.size) (hkp : KeepBut wp w g none)
    (hA : AskW w g 80 (rdR Ab bs.length cb nx) G A hs.length c B locs at_) (hB : kB.C Wz Ab bs.length bs) (hnx : nx ≤ bs.length) (hcb : bs.length ≤ cb) (hby : ∀ x ∈ bs, 0 ≤ x ∧ x ≤ 255) (hl0 : 0 ≤ locs) (hl1 : locs < 1048576)
    (hF : kH.R 46 w wp.heap.size (fun k => wp.heap.size ≤ k) (.slice A hs.length c) hs) (hn : hs.length ≤ 65535) :
    Calls Tryd.prog 46 #[.pointer (some ⟨g, 0, none⟩)] w fun e w' => HeadRd Wz wp w g Ab cb bs nx G hs B locs e w' := by
  have HN := Aside0.mk (number_rd g 5 (by omega) G A hs.length c B locs at_ Ab cb bs nx Wz w hz hg hA hB hnx hby)
  have HZ := Aside0.mk hz
  have HG := Aside0.mk hg
  have HGp := Aside0.mk hgp
  have HKp := Aside0.mk hkp
  have HBs := Aside0.mk hB
  have HBy := Aside0.mk hby
  have HF := Aside0.mk hF
  have HLt := Aside0.mk (Kd.R_lt hF)
  have HL := Aside0.mk (And.intro hl0 hl1)
  have HHn := Aside0.mk hn
  have HCb := Aside0.mk hcb
  have HNx := Aside0.mk hnx
  have hm : bs.length ≤ 9223372036854775807 := Kd.C_max hB
  obtain ⟨nb, hn⟩ : ∃ nb, nb = bs.length := ⟨_, rfl⟩
  have Hn := Aside0.mk hn
  rw [← hn] at hm hnx
  clear hA hz hg hgp hkp hB hn hby hF hl0 hl1
  go_enter Tryd.func46, Tryd.ntmps46
  go_wp2_with fail
  refine HN.out.mono ?_
  rintro e w' ⟨rfl, hA1, hZ1, hK1⟩
  have HZ1 := Aside0.mk hZ1
  have HK1 := Aside0.mk hK1
  clear hZ1 hK1 HN
  by_cases h0 : nx + 5 ≤ bs.length
  · have HA1 := Aside0.mk (hA1 h0)
    rw [if_pos h0]
    have H0 := Aside0.mk h0
    clear hA1 h0
    obtain ⟨w1, rfl⟩ : ∃ w1, w1 = w' := ⟨_, rfl⟩
    have h4 : w1.cell? ⟨g, 4, none⟩ = some (.int .i64 nx) := (blk_cell HA1.out 4).trans rfl
    have h5 : w1.cell? ⟨g, 5, none⟩ = some (.slice Ab nb cb) := by rw [Hn.out]; exact (blk_cell HA1.out 5).trans rfl
    obtain ⟨e5, he5⟩ : ∃ e5, e5 = nx + 5 := ⟨_, rfl⟩
    have h6 : w1.cell? ⟨g, 6, none⟩ = some (.int .i64 (e5 : Int)) := by rw [he5]; exact (blk_cell HA1.out 6).trans rfl
    have hcb0 := HCb.out
    have hb0 := H0.out
    have n0 : (0 : Int) ≤ (nx : Int) := Int.natCast_nonneg nx
    have n5 : nx ≤ e5 := by omega
    have n6 : e5 ≤ cb := by omega
    have n7 : (e5 : Int) ≤ (cb : Int) := by omega
    have n8 : ¬ cb = nx := by omega
    have n9 : e5 - nx = 5 := by omega
    clear hcb hcb0 hb0
    have HE5 := Aside0.mk he5
    clear he5
    go_wp2_with fail
    obtain ⟨ad, hAd, -⟩ := Kd.at_int HBs.out (nx : Int) n0 (by have := H0.out; omega)
    subst hAd
    refine start_ (n := 15) (S := fun w' => w'.cell? ⟨g, 4, none⟩ = some (.int .i64 nx) ∧ w'.cell? ⟨g, 5, none⟩ = some (.slice (some ad) nb cb) ∧ w'.cell? ⟨g, 6, none⟩ = some (.int .i64 (e5 : Int))) (ds := []) #[false, false, false, false, false, false, false, false, false, false, false, false, false, false, false] (by kernel_rfl) rfl rfl ⟨h4, h5, h6⟩ (fun hHeld => ?_)
    refine with_tabW TAB_46.tab2 TAB_46.bits2 (fun HT_ HW_ => ?_)
    refine pure_ (i := 0) (N := some 8) (v := ?_) (a' := ?_) #[true, false, false, false, false, false, false, false, false, false, false, false, false, false, false] rfl rfl (any_of HT_.out (by kernel_rfl)) (fun _ _ _ h => h) (Or.inl ⟨by rfl, ?_⟩) ?_ ?_
    rotate_left
    · intro w'
      go_simp
      with_reducible rfl
    rotate_left
    · simp only [Act.put, List.setIfInBounds_toArray, List.set_cons_zero, List.set_cons_succ, i64_w, i32_w]
      rfl
    refine pure_ (i := 1) (N := some 9) (v := ?_) (a' := ?_) #[true, true, false, false, false, false, false, false, false, false, false, false, false, false, false] rfl rfl (any_of HT_.out (by kernel_rfl)) (fun _ _ _ h => h) (Or.inl ⟨by rfl, ?_⟩) ?_ ?_
    rotate_left
    · intro w'
      go_simp
      with_reducible rfl
    rotate_left
    · simp only [Act.put, List.setIfInBounds_toArray, List.set_cons_zero, List.set_cons_succ, i64_w, i32_w]
      rfl
    refine pure_ (i := 2) (N := some 10) (v := ?_) (a' := ?_) #[true, true, true, false, false, false, false, false, false, false, false, false, false, false, false] rfl rfl (any_of HT_.out (by kernel_rfl)) (fun _ _ _ h => h) (Or.inl ⟨by rfl, ?_⟩) ?_ ?_
    rotate_left
    · intro w'
      go_simp
      with_reducible rfl
    rotate_left
    · simp only [Act.put, List.setIfInBounds_toArray, List.set_cons_zero, List.set_cons_succ, i64_w, i32_w]
      rfl
    refine pure_ (i := 4) (N := some 12) (v := ?_) (a' := ?_) #[true, true, true, false, true, false, false, false, false, false, false, false, false, false, false] rfl rfl (any_of HT_.out (by kernel_rfl)) (fun _ _ _ h => h) (Or.inl ⟨by rfl, ?_⟩) ?_ ?_
    rotate_left
    · intro w'
      go_simp
      with_reducible rfl
    rotate_left
    · simp only [Act.put, List.setIfInBounds_toArray, List.set_cons_zero, List.set_cons_succ, i64_w, i32_w]
      rfl
    refine pure_ (i := 5) (N := some 13) (v := ?_) (a' := ?_) #[true, true, true, false, true, true, false, false, false, false, false, false, false, false, false] rfl rfl (any_of HT_.out (by kernel_rfl)) (fun _ _ _ h => h) (Or.inl ⟨by rfl, ?_⟩) ?_ ?_
    rotate_left
    · intro w'
      go_simp
      with_reducible rfl
    rotate_left
    · simp only [Act.put, List.setIfInBounds_toArray, List.set_cons_zero, List.set_cons_succ, i64_w, i32_w]
      rfl
    refine pure_ (i := 6) (N := some 14) (v := ?_) (a' := ?_) #[true, true, true, false, true, true, true, false, false, false, false, false, false, false, false] rfl rfl (any_of HT_.out (by kernel_rfl)) (fun _ _ _ h => h) (Or.inl ⟨by rfl, ?_⟩) ?_ ?_
    rotate_left
    · intro w'
      go_simp
      with_reducible rfl
    rotate_left
    · simp only [Act.put, List.setIfInBounds_toArray, List.set_cons_zero, List.set_cons_succ, i64_w, i32_w]
      rfl
    refine pure_ (i := 7) (N := some 15) (v := ?_) (a' := ?_) #[true, true, true, false, true, true, true, true, false, false, false, false, false, false, false] rfl rfl (any_of HT_.out (by kernel_rfl)) (fun _ _ _ h => h) (Or.inl ⟨by rfl, ?_⟩) ?_ ?_
    rotate_left
    · intro w'
      go_simp
      with_reducible rfl
    rotate_left
    · simp only [Act.put, List.setIfInBounds_toArray, List.set_cons_zero, List.set_cons_succ, i64_w, i32_w]
      rfl
    refine pure_ (i := 9) (N := some 17) (v := ?_) (a' := ?_) #[true, true, true, false, true, true, true, true, false, true, false, false, false, false, false] rfl rfl (any_of HT_.out (by kernel_rfl)) (fun _ _ _ h => h) (Or.inl ⟨by rfl, ?_⟩) ?_ ?_
    rotate_left
    · intro w'
      go_simp
      with_reducible rfl
    rotate_left
    · simp only [Act.put, List.setIfInBounds_toArray, List.set_cons_zero, List.set_cons_succ, i64_w, i32_w]
      rfl
    refine pure_ (i := 10) (N := some 18) (v := ?_) (a' := ?_) #[true, true, true, false, true, true, true, true, false, true, true, false, false, false, false] rfl rfl (any_of HT_.out (by kernel_rfl)) (fun _ _ _ h => h) (Or.inl ⟨by rfl, ?_⟩) ?_ ?_
    rotate_left
    · intro w'
      go_simp
      with_reducible rfl
    rotate_left
    · simp only [Act.put, List.setIfInBounds_toArray, List.set_cons_zero, List.set_cons_succ, i64_w, i32_w]
      rfl
    refine pure_ (i := 11) (N := some 19) (v := ?_) (a' := ?_) #[true, true, true, false, true, true, true, true, false, true, true, true, false, false, false] rfl rfl (any_of HT_.out (by kernel_rfl)) (fun _ _ _ h => h) (Or.inl ⟨by rfl, ?_⟩) ?_ ?_
    rotate_left
    · intro w'
      go_simp
      with_reducible rfl
    rotate_left
    · simp only [Act.put, List.setIfInBounds_toArray, List.set_cons_zero, List.set_cons_succ, i64_w, i32_w]
      rfl
    refine take_ (i := 3) (N := some 11) (v := ?_) (a' := ?_) #[true, true, true, true, true, true, true, true, false, true, true, true, false, false, false] rfl rfl (take_ofW HT_.out HW_.out (by kernel_rfl)) (fun _ _ _ h => h) (Or.inl ⟨by rfl, ?_⟩) hHeld ?_ ?_
    rotate_left
    · rintro w' ⟨s0, s1, s2⟩
      go_simp
      with_reducible rfl
    rotate_left
    · simp only [Act.put, List.setIfInBounds_toArray, List.set_cons_zero, List.set_cons_succ, i64_w, i32_w]
      rfl
    refine take_ (i := 8) (N := some 16) (v := ?_) (a' := ?_) #[true, true, true, true, true, true, true, true, true, true, true, true, false, false, false] rfl rfl (take_ofW HT_.out HW_.out (by kernel_rfl)) (fun _ _ _ h => h) (Or.inl ⟨by rfl, ?_⟩) hHeld ?_ ?_
    rotate_left
    · rintro w' ⟨s0, s1, s2⟩
      go_simp
      with_reducible rfl
    rotate_left
    · simp only [Act.put, List.setIfInBounds_toArray, List.set_cons_zero, List.set_cons_succ, i64_w, i32_w]
      rfl
    refine take_ (i := 12) (N := some 20) (v := ?_) (a' := ?_) #[true, true, true, true, true, true, true, true, true, true, true, true, true, false, false] rfl rfl (take_ofW HT_.out HW_.out (by kernel_rfl)) (fun _ _ _ h => h) (Or.inl ⟨by rfl, ?_⟩) hHeld ?_ ?_
    rotate_left
    · rintro w' ⟨s0, s1, s2⟩
      go_simp
      with_reducible rfl
    rotate_left
    · simp only [Act.put, List.setIfInBounds_toArray, List.set_cons_zero, List.set_cons_succ, i64_w, i32_w]
      rfl
    refine pure_ (i := 13) (N := some 21) (v := ?_) (a' := ?_) #[true, true, true, true, true, true, true, true, true, true, true, true, true, true, false] rfl rfl (any_of HT_.out (by kernel_rfl)) (fun _ _ _ h => h) (Or.inl ⟨by rfl, ?_⟩) ?_ ?_
    rotate_left
    · intro w'
      go_simp
      with_reducible rfl
    rotate_left
    · simp only [Act.put, List.setIfInBounds_toArray, List.set_cons_zero, List.set_cons_succ, i64_w, i32_w]
      rfl
    refine pure_ (i := 14) (N := some 3) (v := ?_) (a' := ?_) #[true, true, true, true, true, true, true, true, true, true, true, true, true, true, true] rfl rfl (any_of HT_.out (by kernel_rfl)) (fun _ _ _ h => h) (Or.inl ⟨by rfl, ?_⟩) ?_ ?_
    rotate_left
    · intro w'
      go_simp
      with_reducible rfl
    rotate_left
    · simp only [Act.put, List.setIfInBounds_toArray, List.set_cons_zero, List.set_cons_succ, i64_w, i32_w]
      rfl
    refine done_ (done_of HT_.out (by kernel_rfl)) ?_
    clear hHeld HT_ HW_ h4 h5 h6 n6 n7 n8 n9
    have HA2 : Aside0 (AskW w1.drew g 80 (rdR (some ad) bs.length cb ((nx + 5 : Nat) : Int)) G A hs.length c B locs nx) := ⟨HA1.out⟩
    have HZ2 : Aside0 (Below Wz.heap.size Wz w1.drew) := ⟨below_drew HZ1.out⟩
    have HK2 : Aside0 (KeepBut w w1.drew g none) := ⟨HK1.out⟩
    clear HA1 HZ1 HK1
    obtain ⟨w2, hw2⟩ : ∃ w2, w2 = w1.drew := ⟨_, rfl⟩
    rw [← hw2] at HA2 HZ2 HK2 ⊢
    clear hw2
    have hxs : ∀ i : Nat, i < 5 → w2.cell? ((ad.add nx).add i) = some (.int .u8 (bs.getD (nx + i) 0)) := fun i hi => by
      have hl : nx + i < bs.length := by have := H0.out; omega
      obtain ⟨ad', e0, hrx⟩ := Kd.at_int (Kd.C_below HBs.out HZ2.out) ((nx + i : Nat) : Int) (Int.natCast_nonneg _) (by omega)
      injection e0 with e0
      subst e0
      rw [Int.toNat_natCast, rd_at bs (nx + i) hl] at hrx
      rw [Addr.add_add, hrx, List.getD_eq_getElem?_getD, List.getElem?_eq_getElem hl]
      rfl
    have hbd : ∀ i : Nat, i < 5 → 0 ≤ bs.getD (nx + i) 0 ∧ bs.getD (nx + i) 0 ≤ 255 := fun i hi => by
      have hl : nx + i < bs.length := by have := H0.out; omega
      rw [List.getD_eq_getElem?_getD, List.getElem?_eq_getElem hl]
      exact HBy.out _ (List.getElem_mem hl)
    have HHv : Aside0 (hvOf bs nx = ⟨bs.getD (nx + 0) 0, bs.getD (nx + 1) 0, bs.getD (nx + 2) 0, .slice none 0 0, rfl⟩) := ⟨rfl⟩
    have HNv : Aside0 (hvN bs nx = bs.getD (nx + 3) 0 + bs.getD (nx + 4) 0 * 256) := ⟨rfl⟩
    have hx0 := hxs 0 (by omega)
    have hx1 := hxs 1 (by omega)
    have hx2 := hxs 2 (by omega)
    have hx3 := hxs 3 (by omega)
    have hx4 := hxs 4 (by omega)
    have hb0 := hbd 0 (by omega)
    have hb1 := hbd 1 (by omega)
    have hb2 := hbd 2 (by omega)
    have hb3 := hbd 3 (by omega)
    have hb4 := hbd 4 (by omega)
    obtain ⟨x0, e0⟩ : ∃ x, x = bs.getD (nx + 0) 0 := ⟨_, rfl⟩
    obtain ⟨x1, e1⟩ : ∃ x, x = bs.getD (nx + 1) 0 := ⟨_, rfl⟩
    obtain ⟨x2, e2⟩ : ∃ x, x = bs.getD (nx + 2) 0 := ⟨_, rfl⟩
    obtain ⟨x3, e3⟩ : ∃ x, x = bs.getD (nx + 3) 0 := ⟨_, rfl⟩
    obtain ⟨x4, e4⟩ : ∃ x, x = bs.getD (nx + 4) 0 := ⟨_, rfl⟩
    rw [← e0] at hx0 hb0 HHv
    rw [← e1] at hx1 hb1 HHv
    rw [← e2] at hx2 hb2 HHv
    rw [← e3] at hx3 hb3 HNv
    rw [← e4] at hx4 hb4 HNv
    rw [Addr.add_zero'] at hx0
    obtain ⟨ab, hab⟩ : ∃ ab, ab = ad.add nx := ⟨_, rfl⟩
    rw [← hab] at hx0 hx1 hx2 hx3 hx4 ⊢
    clear hxs hbd e0 e1 e2 e3 e4 hab
    replace hx1 : w2.cell? ⟨ab.block, ab.off + 1, none⟩ = some (.int .u8 x1) := hx1
    replace hx2 : w2.cell? ⟨ab.block, ab.off + 2, none⟩ = some (.int .u8 x2) := hx2
    replace hx3 : w2.cell? ⟨ab.block, ab.off + 3, none⟩ = some (.int .u8 x3) := hx3
    replace hx4 : w2.cell? ⟨ab.block, ab.off + 4, none⟩ = some (.int .u8 x4) := hx4
    go_wp2_with fail
    refine start_ (n := 15) (S := fun w' => w'.cell? ab = some (.int .u8 x0) ∧ w'.cell? ⟨ab.block, ab.off + 1, none⟩ = some (.int .u8 x1) ∧ w'.cell? ⟨ab.block, ab.off + 2, none⟩ = some (.int .u8 x2)) (ds := []) #[false, false, false, false, false, false, false, false, false, false, false, false, false, false, false] (by kernel_rfl) rfl rfl ⟨hx0, hx1, hx2⟩ (fun hHeld => ?_)
    refine with_tabW TAB_46.tab3 TAB_46.bits3 (fun HT_ HW_ => ?_)
    refine pure_ (i := 0) (N := some 22) (v := ?_) (a' := ?_) #[true, false, false, false, false, false, false, false, false, false, false, false, false, false, false] rfl rfl (any_of HT_.out (by kernel_rfl)) (fun _ _ _ h => h) (Or.inl ⟨by rfl, ?_⟩) ?_ ?_
    rotate_left
    · intro w'
      go_simp
      with_reducible rfl
    rotate_left
    · simp only [Act.put, List.setIfInBounds_toArray, List.set_cons_zero, List.set_cons_succ, i64_w, i32_w]
      rfl
    refine pure_ (i := 1) (N := some 23) (v := ?_) (a' := ?_) #[true, true, false, false, false, false, false, false, false, false, false, false, false, false, false] rfl rfl (any_of HT_.out (by kernel_rfl)) (fun _ _ _ h => h) (Or.inl ⟨by rfl, ?_⟩) ?_ ?_
    rotate_left
    · intro w'
      go_simp
      with_reducible rfl
    rotate_left
    · simp only [Act.put, List.setIfInBounds_toArray, List.set_cons_zero, List.set_cons_succ, i64_w, i32_w]
      rfl
    refine pure_ (i := 4) (N := some 26) (v := ?_) (a' := ?_) #[true, true, false, false, true, false, false, false, false, false, false, false, false, false, false] rfl rfl (any_of HT_.out (by kernel_rfl)) (fun _ _ _ h => h) (Or.inl ⟨by rfl, ?_⟩) ?_ ?_
    rotate_left
    · intro w'
      go_simp
      with_reducible rfl
    rotate_left
    · simp only [Act.put, List.setIfInBounds_toArray, List.set_cons_zero, List.set_cons_succ, i64_w, i32_w]
      rfl
    refine pure_ (i := 5) (N := some 27) (v := ?_) (a' := ?_) #[true, true, false, false, true, true, false, false, false, false, false, false, false, false, false] rfl rfl (any_of HT_.out (by kernel_rfl)) (fun _ _ _ h => h) (Or.inl ⟨by rfl, ?_⟩) ?_ ?_
    rotate_left
    · intro w'
      go_simp
      with_reducible rfl
    rotate_left
    · simp only [Act.put, List.setIfInBounds_toArray, List.set_cons_zero, List.set_cons_succ, i64_w, i32_w]
      rfl
    refine pure_ (i := 8) (N := some 30) (v := ?_) (a' := ?_) #[true, true, false, false, true, true, false, false, true, false, false, false, false, false, false] rfl rfl (any_of HT_.out (by kernel_rfl)) (fun _ _ _ h => h) (Or.inl ⟨by rfl, ?_⟩) ?_ ?_
    rotate_left
    · intro w'
      go_simp
      with_reducible rfl
    rotate_left
    · simp only [Act.put, List.setIfInBounds_toArray, List.set_cons_zero, List.set_cons_succ, i64_w, i32_w]
      rfl
    refine pure_ (i := 9) (N := some 31) (v := ?_) (a' := ?_) #[true, true, false, false, true, true, false, false, true, true, false, false, false, false, false] rfl rfl (any_of HT_.out (by kernel_rfl)) (fun _ _ _ h => h) (Or.inl ⟨by rfl, ?_⟩) ?_ ?_
    rotate_left
    · intro w'
      go_simp
      with_reducible rfl
    rotate_left
    · simp only [Act.put, List.setIfInBounds_toArray, List.set_cons_zero, List.set_cons_succ, i64_w, i32_w]
      rfl
    refine take_ (i := 2) (N := some 24) (v := ?_) (a' := ?_) #[true, true, true, false, true, true, false, false, true, true, false, false, false, false, false] rfl rfl (take_ofW HT_.out HW_.out (by kernel_rfl)) (fun _ _ _ h => h) (Or.inl ⟨by rfl, ?_⟩) hHeld ?_ ?_
    rotate_left
    · rintro w' ⟨s0, s1, s2⟩
      go_simp
      with_reducible rfl
    rotate_left
    · simp only [Act.put, List.setIfInBounds_toArray, List.set_cons_zero, List.set_cons_succ, i64_w, i32_w]
      rfl
    refine pure_ (i := 3) (N := some 25) (v := ?_) (a' := ?_) #[true, true, true, true, true, true, false, false, true, true, false, false, false, false, false] rfl rfl (any_of HT_.out (by kernel_rfl)) (fun _ _ _ h => h) (Or.inl ⟨by rfl, ?_⟩) ?_ ?_
    rotate_left
    · intro w'
      go_simp
      with_reducible rfl
    rotate_left
    · simp only [Act.put, List.setIfInBounds_toArray, List.set_cons_zero, List.set_cons_succ, i64_w, i32_w]
      rfl
    refine take_ (i := 6) (N := some 28) (v := ?_) (a' := ?_) #[true, true, true, true, true, true, true, false, true, true, false, false, false, false, false] rfl rfl (take_ofW HT_.out HW_.out (by kernel_rfl)) (fun _ _ _ h => h) (Or.inl ⟨by rfl, ?_⟩) hHeld ?_ ?_
    rotate_left
    · rintro w' ⟨s0, s1, s2⟩
      go_simp
      with_reducible rfl
    rotate_left
    · simp only [Act.put, List.setIfInBounds_toArray, List.set_cons_zero, List.set_cons_succ, i64_w, i32_w]
      rfl
    refine pure_ (i := 7) (N := some 29) (v := ?_) (a' := ?_) #[true, true, true, true, true, true, true, true, true, true, false, false, false, false, false] rfl rfl (any_of HT_.out (by kernel_rfl)) (fun _ _ _ h => h) (Or.inl ⟨by rfl, ?_⟩) ?_ ?_
    rotate_left
    · intro w'
      go_simp
      with_reducible rfl
    rotate_left
    · simp only [Act.put, List.setIfInBounds_toArray, List.set_cons_zero, List.set_cons_succ, i64_w, i32_w]
      rfl
    refine take_ (i := 10) (N := some 32) (v := ?_) (a' := ?_) #[true, true, true, true, true, true, true, true, true, true, true, false, false, false, false] rfl rfl (take_ofW HT_.out HW_.out (by kernel_rfl)) (fun _ _ _ h => h) (Or.inl ⟨by rfl, ?_⟩) hHeld ?_ ?_
    rotate_left
    · rintro w' ⟨s0, s1, s2⟩
      go_simp
      with_reducible rfl
    rotate_left
    · simp only [Act.put, List.setIfInBounds_toArray, List.set_cons_zero, List.set_cons_succ, i64_w, i32_w]
      rfl
    refine pure_ (i := 11) (N := some 33) (v := ?_) (a' := ?_) #[true, true, true, true, true, true, true, true, true, true, true, true, false, false, false] rfl rfl (any_of HT_.out (by kernel_rfl)) (fun _ _ _ h => h) (Or.inl ⟨by rfl, ?_⟩) ?_ ?_
    rotate_left
    · intro w'
      go_simp
      with_reducible rfl
    rotate_left
    · simp only [Act.put, List.setIfInBounds_toArray, List.set_cons_zero, List.set_cons_succ, i64_w, i32_w]
      rfl
    refine pure_ (i := 12) (N := some 34) (v := ?_) (a' := ?_) #[true, true, true, true, true, true, true, true, true, true, true, true, true, false, false] rfl rfl (any_of HT_.out (by kernel_rfl)) (fun _ _ _ h => h) (Or.inl ⟨by rfl, ?_⟩) ?_ ?_
    rotate_left
    · intro w'
      go_simp
      with_reducible rfl
    rotate_left
    · simp only [Act.put, List.setIfInBounds_toArray, List.set_cons_zero, List.set_cons_succ, i64_w, i32_w]
      rfl
    refine one_ (i := 13) (N := some 4) #[true, true, true, true, true, true, true, true, true, true, true, true, true, true, false] rfl rfl (one_of HT_.out (by kernel_rfl)) (by decide) (fun K hK => ?_)
    refine value_ (w1 := ?_) (v := ?_) (by rfl) rfl ?_ ?_
    rotate_left 2
    · go_simp
      constructor
      · rfl
      · rfl
    refine hK.out _ _ ⟨pw_cell_below (below_alloc (Below.refl _ _) _) hx0, pw_cell_below (below_alloc (Below.refl _ _) _) hx1, pw_cell_below (below_alloc (Below.refl _ _) _) hx2⟩ (fun hHeld => ?_)
    clear hK K
    refine norm_ (a' := ?_) ?_ ?_
    rotate_left
    · show Act.put _ (some 4) _ = _
      simp only [Act.put, List.setIfInBounds_toArray, List.set_cons_zero, List.set_cons_succ, i64_w, i32_w]
      rfl
    refine one_ (i := 14) (N := none) #[true, true, true, true, true, true, true, true, true, true, true, true, true, true, true] rfl rfl (one_of HT_.out (by kernel_rfl)) (by decide) (fun K hK => ?_)
    refine skip_ (w1 := ?_) (by rfl) rfl ?_ ?_
    rotate_left
    · go_simp
      rfl
    refine hK.out _ _ ⟨pw_cell_below (below_alloc (Below.refl _ _) _) hx0, pw_cell_below (below_alloc (Below.refl _ _) _) hx1, pw_cell_below (below_alloc (Below.refl _ _) _) hx2⟩ (fun hHeld => ?_)
    clear hK K
    refine done_ (done_of HT_.out (by kernel_rfl)) ?_
    rw [wrap_in (show -9223372036854775808 ≤ x0 by omega) (by omega), wrap_in (show -9223372036854775808 ≤ x1 by omega) (by omega), wrap_in (show -9223372036854775808 ≤ x2 by omega) (by omega)]
    clear hHeld HT_ HW_ hx0 hx1 hx2
    obtain ⟨gf, hgf⟩ : ∃ gf, gf = w2.heap.size := ⟨_, rfl⟩
    obtain ⟨w4, hw4⟩ : ∃ w4, w4 = (w2.alloc (.cells #[.int .i64 x0, .int .i64 x1, .int .i64 x2, .slice none 0 0] 46)).drew := ⟨_, rfl⟩
    have HB4 : Aside0 (Below w2.heap.size w2 w4) := ⟨by rw [hw4]; exact below_drew1 (below_alloc (Below.refl _ _) _)⟩
    have BKf : Aside0 (w4.heap[gf]? = some (.cells #[.int .i64 x0, .int .i64 x1, .int .i64 x2, .slice none 0 0] 46 (0, 0))) := ⟨by rw [hw4, hgf]; exact blk_at _⟩
    have HGf : Aside0 (w2.heap.size ≤ gf) := ⟨by omega⟩
    rw [← hw4, ← hgf]
    clear hw4 hgf
    replace hx3 := pw_cell_below HB4.out hx3
    replace hx4 := pw_cell_below HB4.out hx4
    go_wp2_with fail
    refine start_ (n := 11) (S := fun w' => w'.cell? ⟨ab.block, ab.off + 3, none⟩ = some (.int .u8 x3) ∧ w'.cell? ⟨ab.block, ab.off + 4, none⟩ = some (.int .u8 x4)) (ds := []) #[false, false, false, false, false, false, false, false, false, false, false] (by kernel_rfl) rfl rfl ⟨hx3, hx4⟩ (fun hHeld => ?_)
    refine with_tabW TAB_46.tab4 TAB_46.bits4 (fun HT_ HW_ => ?_)
    refine pure_ (i := 0) (N := some 35) (v := ?_) (a' := ?_) #[true, false, false, false, false, false, false, false, false, false, false] rfl rfl (any_of HT_.out (by kernel_rfl)) (fun _ _ _ h => h) (Or.inl ⟨by rfl, ?_⟩) ?_ ?_
    rotate_left
    · intro w'
      go_simp
      with_reducible rfl
    rotate_left
    · simp only [Act.put, List.setIfInBounds_toArray, List.set_cons_zero, List.set_cons_succ, i64_w, i32_w]
      rfl
    refine pure_ (i := 1) (N := some 36) (v := ?_) (a' := ?_) #[true, true, false, false, false, false, false, false, false, false, false] rfl rfl (any_of HT_.out (by kernel_rfl)) (fun _ _ _ h => h) (Or.inl ⟨by rfl, ?_⟩) ?_ ?_
    rotate_left
    · intro w'
      go_simp
      with_reducible rfl
    rotate_left
    · simp only [Act.put, List.setIfInBounds_toArray, List.set_cons_zero, List.set_cons_succ, i64_w, i32_w]
      rfl
    refine pure_ (i := 4) (N := some 39) (v := ?_) (a' := ?_) #[true, true, false, false, true, false, false, false, false, false, false] rfl rfl (any_of HT_.out (by kernel_rfl)) (fun _ _ _ h => h) (Or.inl ⟨by rfl, ?_⟩) ?_ ?_
    rotate_left
    · intro w'
      go_simp
      with_reducible rfl
    rotate_left
    · simp only [Act.put, List.setIfInBounds_toArray, List.set_cons_zero, List.set_cons_succ, i64_w, i32_w]
      rfl
    refine pure_ (i := 5) (N := some 40) (v := ?_) (a' := ?_) #[true, true, false, false, true, true, false, false, false, false, false] rfl rfl (any_of HT_.out (by kernel_rfl)) (fun _ _ _ h => h) (Or.inl ⟨by rfl, ?_⟩) ?_ ?_
    rotate_left
    · intro w'
      go_simp
      with_reducible rfl
    rotate_left
    · simp only [Act.put, List.setIfInBounds_toArray, List.set_cons_zero, List.set_cons_succ, i64_w, i32_w]
      rfl
    refine take_ (i := 2) (N := some 37) (v := ?_) (a' := ?_) #[true, true, true, false, true, true, false, false, false, false, false] rfl rfl (take_ofW HT_.out HW_.out (by kernel_rfl)) (fun _ _ _ h => h) (Or.inl ⟨by rfl, ?_⟩) hHeld ?_ ?_
    rotate_left
    · rintro w' ⟨s0, s1⟩
      go_simp
      with_reducible rfl
    rotate_left
    · simp only [Act.put, List.setIfInBounds_toArray, List.set_cons_zero, List.set_cons_succ, i64_w, i32_w]
      rfl
    refine pure_ (i := 3) (N := some 38) (v := ?_) (a' := ?_) #[true, true, true, true, true, true, false, false, false, false, false] rfl rfl (any_of HT_.out (by kernel_rfl)) (fun _ _ _ h => h) (Or.inl ⟨by rfl, ?_⟩) ?_ ?_
    rotate_left
    · intro w'
      go_simp
      with_reducible rfl
    rotate_left
    · simp only [Act.put, List.setIfInBounds_toArray, List.set_cons_zero, List.set_cons_succ, i64_w, i32_w]
      rfl
    refine take_ (i := 6) (N := some 41) (v := ?_) (a' := ?_) #[true, true, true, true, true, true, true, false, false, false, false] rfl rfl (take_ofW HT_.out HW_.out (by kernel_rfl)) (fun _ _ _ h => h) (Or.inl ⟨by rfl, ?_⟩) hHeld ?_ ?_
    rotate_left
    · rintro w' ⟨s0, s1⟩
      go_simp
      with_reducible rfl
    rotate_left
    · simp only [Act.put, List.setIfInBounds_toArray, List.set_cons_zero, List.set_cons_succ, i64_w, i32_w]
      rfl
    refine pure_ (i := 7) (N := some 42) (v := ?_) (a' := ?_) #[true, true, true, true, true, true, true, true, false, false, false] rfl rfl (any_of HT_.out (by kernel_rfl)) (fun _ _ _ h => h) (Or.inl ⟨by rfl, ?_⟩) ?_ ?_
    rotate_left
    · intro w'
      go_simp
      with_reducible rfl
    rotate_left
    · simp only [Act.put, List.setIfInBounds_toArray, List.set_cons_zero, List.set_cons_succ, i64_w, i32_w]
      rfl
    refine pure_ (i := 8) (N := some 43) (v := ?_) (a' := ?_) #[true, true, true, true, true, true, true, true, true, false, false] rfl rfl (any_of HT_.out (by kernel_rfl)) (fun _ _ _ h => h) (Or.inl ⟨by rfl, ?_⟩) ?_ ?_
    rotate_left
    · intro w'
      go_simp
      with_reducible rfl
    rotate_left
    · simp only [Act.put, List.setIfInBounds_toArray, List.set_cons_zero, List.set_cons_succ, i64_w, i32_w]
      rfl
    refine pure_ (i := 9) (N := some 44) (v := ?_) (a' := ?_) #[true, true, true, true, true, true, true, true, true, true, false] rfl rfl (any_of HT_.out (by kernel_rfl)) (fun _ _ _ h => h) (Or.inl ⟨by rfl, ?_⟩) ?_ ?_
    rotate_left
    · intro w'
      go_simp
      with_reducible rfl
    rotate_left
    · simp only [Act.put, List.setIfInBounds_toArray, List.set_cons_zero, List.set_cons_succ, i64_w, i32_w]
      rfl
    refine pure_ (i := 10) (N := some 5) (v := ?_) (a' := ?_) #[true, true, true, true, true, true, true, true, true, true, true] rfl rfl (any_of HT_.out (by kernel_rfl)) (fun _ _ _ h => h) (Or.inl ⟨by rfl, ?_⟩) ?_ ?_
    rotate_left
    · intro w'
      go_simp
      with_reducible rfl
    rotate_left
    · simp only [Act.put, List.setIfInBounds_toArray, List.set_cons_zero, List.set_cons_succ, i64_w, i32_w]
      rfl
    refine done_ (done_of HT_.out (by kernel_rfl)) ?_
    rw [wrap_in (show -9223372036854775808 ≤ x3 by omega) (by omega), wrap_in (show -9223372036854775808 ≤ x4 by omega) (by omega), wrap_in (show -9223372036854775808 ≤ x4 * 256 by omega) (by omega), or_bytes64 x4 x3 hb4 hb3]
    clear hHeld HT_ HW_ hx3 hx4
    obtain ⟨m, hmv⟩ : ∃ m, m = x3 + x4 * 256 := ⟨_, rfl⟩
    rw [← hmv] at HNv ⊢
    clear hmv
    have HB5 : Aside0 (Below w2.heap.size w2 w4.drew) := ⟨below_drew1 HB4.out⟩
    have HA5 := Aside0.mk (HA2.out.below HB5.out)
    have HZ5 : Aside0 (Below Wz.heap.size Wz w4.drew) := ⟨HZ2.out.trans (HB5.out.mono HZ2.out.size)⟩
    have HK5 : Aside0 (KeepBut w w4.drew g none) := ⟨KeepBut.trans HK2.out (KeepBut.of_below HB5.out g none) (.inl rfl)⟩
    have BK5 : Aside0 (w4.drew.heap[gf]? = some (.cells #[.int .i64 x0, .int .i64 x1, .int .i64 x2, .slice none 0 0] 46 (0, 0))) := ⟨BKf.out⟩
    have HNg : Aside0 (gf ≠ g) := ⟨by have := HGf.out; have := HK2.out.1; have := HKp.out.1; have := HGp.out; omega⟩
    have HGw : Aside0 (w.heap.size ≤ gf) := ⟨by have := HGf.out; have := HK2.out.1; omega⟩
    clear HB4 HB5 HA2 HZ2 HK2 BKf HGf
    obtain ⟨w5, hw5⟩ : ∃ w5, w5 = w4.drew := ⟨_, rfl⟩
    rw [← hw5] at HA5 HZ5 HK5 BK5 ⊢
    clear hw5
    have HHd := Aside0.mk (head_any g ⟨gf, 0, none⟩ 80 (rdR (some ad) bs.length cb ((nx + 5 : Nat) : Int)) G A hs.length c B locs x0 x1 x2 m nx Wz w5 HZ5.out HG.out HA5.out HL.out.1 HL.out.2 ((blk_cell BK5.out 0).trans rfl) ((blk_cell BK5.out 1).trans rfl) ((blk_cell BK5.out 2).trans rfl))
    go_wp2_with fail
    refine HHd.out.mono ?_
    rintro e w' ⟨he, hok, hzw, hkp⟩
    have HZ6 := Aside0.mk hzw
    have HK6 : Aside0 (KeepBut w w' g none) := ⟨KeepBut.trans HK5.out hkp (.inl rfl)⟩
    have BK6 := Aside0.mk (hkp.blk BK5.out HNg.out (by simp))
    have HEv : Aside0 (hvE bs nx locs = headE locs x0 x1 x2 m) := ⟨by unfold hvE; rw [HHv.out, HNv.out]⟩
    have HVv : Aside0 ((hvOf bs nx).V = x2) := ⟨by rw [HHv.out]⟩
    have HKq : Aside0 (KeepBut wp w' g none) := ⟨KeepBut.trans HKp.out HK6.out (.inl rfl)⟩
    obtain ⟨er, her⟩ : ∃ er, er = headE locs x0 x1 x2 m := ⟨_, rfl⟩
    rw [← her] at he hok HEv
    clear her hzw hkp HHd HZ5 HA5 BK5
    by_cases h1 : er = 0
    · rw [if_pos h1] at he
      subst he
      have HA6 := Aside0.mk (hok h1)
      subst h1
      have HF6 : Aside0 (kH.R 46 w' wp.heap.size (fun k => wp.heap.size ≤ k) (.slice A hs.length c) hs) := ⟨Kd.R_keep HF.out HK6.out (fun k hk => by have := HGp.out; omega)⟩
      clear hok HF HK5
      obtain ⟨w6, rfl⟩ : ∃ w6, w6 = w' := ⟨_, rfl⟩
      have hl : hs.length ≤ 9223372036854775807 := by have := HHn.out; omega
      obtain ⟨n, hn2⟩ : ∃ n, n = hs.length := ⟨_, rfl⟩
      have Hn2 := Aside0.mk hn2
      rw [← hn2] at HA6 HF6 HLt
      have hs0 : w6.cell? ⟨g, 1, none⟩ = some (.slice A n c) := (blk_cell HA6.out 1).trans rfl
      have hs1 : w6.cell? ⟨gf, 0, none⟩ = some (.int .i64 x0) := (blk_cell BK6.out 0).trans rfl
      have hs2 : w6.cell? ⟨gf, 1, none⟩ = some (.int .i64 x1) := (blk_cell BK6.out 1).trans rfl
      have hs3 : w6.cell? ⟨gf, 2, none⟩ = some (.int .i64 x2) := (blk_cell BK6.out 2).trans rfl
      have hs4 : w6.cell? ⟨gf, 3, none⟩ = some (.slice none 0 0) := (blk_cell BK6.out 3).trans rfl
      clear hn2 hn
      go_wp2_with fail
      refine start_ (n := 15) (S := fun w' => w'.cell? ⟨g, 1, none⟩ = some (.slice A n c) ∧ w'.cell? ⟨gf, 0, none⟩ = some (.int .i64 x0) ∧ w'.cell? ⟨gf, 1, none⟩ = some (.int .i64 x1) ∧ w'.cell? ⟨gf, 2, none⟩ = some (.int .i64 x2) ∧ w'.cell? ⟨gf, 3, none⟩ = some (.slice none 0 0)) (ds := [14]) #[false, false, false, false, false, false, false, false, false, false, false, false, false, false, false] (by kernel_rfl) rfl rfl ⟨hs0, hs1, hs2, hs3, hs4⟩ (fun hHeld => ?_)
      refine with_tabW TAB_46.tab6 TAB_46.bits6 (fun HT_ HW_ => ?_)
      refine pure_ (i := 0) (N := some 50) (v := ?_) (a' := ?_) #[true, false, false, false, false, false, false, false, false, false, false, false, false, false, false] rfl rfl (any_of HT_.out (by kernel_rfl)) (fun _ _ _ h => h) (Or.inl ⟨by rfl, ?_⟩) ?_ ?_
      rotate_left
      · intro w'
        go_simp
        with_reducible rfl
      rotate_left
      · simp only [Act.put, List.setIfInBounds_toArray, List.set_cons_zero, List.set_cons_succ, i64_w, i32_w]
        rfl
      refine pure_ (i := 1) (N := some 51) (v := ?_) (a' := ?_) #[true, true, false, false, false, false, false, false, false, false, false, false, false, false, false] rfl rfl (any_of HT_.out (by kernel_rfl)) (fun _ _ _ h => h) (Or.inl ⟨by rfl, ?_⟩) ?_ ?_
      rotate_left
      · intro w'
        go_simp
        with_reducible rfl
      rotate_left
      · simp only [Act.put, List.setIfInBounds_toArray, List.set_cons_zero, List.set_cons_succ, i64_w, i32_w]
        rfl
      refine pure_ (i := 2) (N := some 52) (v := ?_) (a' := ?_) #[true, true, true, false, false, false, false, false, false, false, false, false, false, false, false] rfl rfl (any_of HT_.out (by kernel_rfl)) (fun _ _ _ h => h) (Or.inl ⟨by rfl, ?_⟩) ?_ ?_
      rotate_left
      · intro w'
        go_simp
        with_reducible rfl
      rotate_left
      · simp only [Act.put, List.setIfInBounds_toArray, List.set_cons_zero, List.set_cons_succ, i64_w, i32_w]
        rfl
      refine pure_ (i := 3) (N := some 53) (v := ?_) (a' := ?_) #[true, true, true, true, false, false, false, false, false, false, false, false, false, false, false] rfl rfl (any_of HT_.out (by kernel_rfl)) (fun _ _ _ h => h) (Or.inl ⟨by rfl, ?_⟩) ?_ ?_
      rotate_left
      · intro w'
        go_simp
        with_reducible rfl
      rotate_left
      · simp only [Act.put, List.setIfInBounds_toArray, List.set_cons_zero, List.set_cons_succ, i64_w, i32_w]
        rfl
      refine pure_ (i := 4) (N := some 54) (v := ?_) (a' := ?_) #[true, true, true, true, true, false, false, false, false, false, false, false, false, false, false] rfl rfl (any_of HT_.out (by kernel_rfl)) (fun _ _ _ h => h) (Or.inl ⟨by rfl, ?_⟩) ?_ ?_
      rotate_left
      · intro w'
        go_simp
        with_reducible rfl
      rotate_left
      · simp only [Act.put, List.setIfInBounds_toArray, List.set_cons_zero, List.set_cons_succ, i64_w, i32_w]
        rfl
      refine pure_ (i := 5) (N := some 55) (v := ?_) (a' := ?_) #[true, true, true, true, true, true, false, false, false, false, false, false, false, false, false] rfl rfl (any_of HT_.out (by kernel_rfl)) (fun _ _ _ h => h) (Or.inl ⟨by rfl, ?_⟩) ?_ ?_
      rotate_left
      · intro w'
        go_simp
        with_reducible rfl
      rotate_left
      · simp only [Act.put, List.setIfInBounds_toArray, List.set_cons_zero, List.set_cons_succ, i64_w, i32_w]
        rfl
      refine take_ (i := 6) (N := some 56) (v := ?_) (a' := ?_) #[true, true, true, true, true, true, true, false, false, false, false, false, false, false, false] rfl rfl (take_ofW HT_.out HW_.out (by kernel_rfl)) (fun _ _ _ h => h) (Or.inl ⟨by rfl, ?_⟩) hHeld ?_ ?_
      rotate_left
      · rintro w' ⟨s0, s1, s2, s3, s4⟩
        go_simp
        with_reducible rfl
      rotate_left
      · simp only [Act.put, List.setIfInBounds_toArray, List.set_cons_zero, List.set_cons_succ, i64_w, i32_w]
        rfl
      refine take_ (i := 7) (N := some 57) (v := ?_) (a' := ?_) #[true, true, true, true, true, true, true, true, false, false, false, false, false, false, false] rfl rfl (take_ofW HT_.out HW_.out (by kernel_rfl)) (fun _ _ _ h => h) (Or.inl ⟨by rfl, ?_⟩) hHeld ?_ ?_
      rotate_left
      · rintro w' ⟨s0, s1, s2, s3, s4⟩
        go_simp
        with_reducible rfl
      rotate_left
      · simp only [Act.put, List.setIfInBounds_toArray, List.set_cons_zero, List.set_cons_succ, i64_w, i32_w]
        rfl
      refine one_ (i := 8) (N := some 58) #[true, true, true, true, true, true, true, true, true, false, false, false, false, false, false] rfl rfl (one_of HT_.out (by kernel_rfl)) (by decide) (fun K hK => ?_)
      refine value_ (w1 := ?_) (v := ?_) (by rfl) rfl ?_ ?_
      rotate_left 2
      · go_simp
        constructor
        · rfl
        · rfl
      show K _ (World.alloc w6.drew (Obj.cells #[.int .i64 x0, .int .i64 x1, .int .i64 x2, .slice none 0 0] 46))
      refine hK.out _ _ ⟨pw_cell_below (below_alloc (Below.refl _ _) _) hs0, pw_cell_below (below_alloc (Below.refl _ _) _) hs1, pw_cell_below (below_alloc (Below.refl _ _) _) hs2, pw_cell_below (below_alloc (Below.refl _ _) _) hs3, pw_cell_below (below_alloc (Below.refl _ _) _) hs4⟩ (fun hHeld => ?_)
      clear hK K
      refine norm_ (a' := ?_) ?_ ?_
      rotate_left
      · show Act.put _ (some 58) _ = _
        simp only [Act.put, List.setIfInBounds_toArray, List.set_cons_zero, List.set_cons_succ, i64_w, i32_w]
        rfl
      refine one_ (i := 9) (N := some 59) #[true, true, true, true, true, true, true, true, true, true, false, false, false, false, false] rfl rfl (one_of HT_.out (by kernel_rfl)) (by decide) (fun K hK => ?_)
      refine Kd.R_append_step kH (w0 := w6.drew) wp.heap.size (by rfl) (.tmp 56) (.tmp 58) 22 46 (.agg #[.int .i64 0, .int .i64 0, .int .i64 0, .slice none 0 0]) 48 (by rfl) Tryd.underlying22 info46 (by rfl) (by decide) (by omega) (.slice A n c) hs ⟨x0, x1, x2, .slice none 0 0, rfl⟩ [.int .i64 x0, .int .i64 x1, .int .i64 x2, .slice none 0 0] (fun k => wp.heap.size ≤ k) (fun _ => False) (by rfl) (by rfl) ?aP (fun _ hk => hk.elim) ?aF ?aO ?aB ?aS ?aL ?_
      case aP => exact rfl
      case aF => exact fun k hk => Nat.le_trans HKq.out.1 hk
      case aO => exact Kd.R_drew HF6.out
      case aB => exact Below.refl _ _
      case aS => exact HKq.out.1
      case aL => have := HHn.out; omega
      intro v1 w7 ho hb hgr hat
      have F0 := Aside0.mk (blk_grown (show w6.drew.heap[g]? = _ from HA6.out) hgr (Kd.R_ne (Kd.R_drew HF6.out) (show w6.drew.heap[g]? = _ from HA6.out) (by decide)))
      have FT := Aside0.mk (KeepT.grown (ts := [46]) (g := g) (Kd.R_drew HF6.out) (by simp) hgr)
      have FG := Aside0.mk (blk_grown (show w6.drew.heap[gf]? = _ from BK6.out) hgr (fun e => by have := HLt.out gf e.symm; have := HGw.out; omega))
      obtain ⟨l2, hl2⟩ : ∃ l2, l2 = hs ++ [(⟨x0, x1, x2, .slice none 0 0, rfl⟩ : HV)] := ⟨_, rfl⟩
      rw [← hl2] at ho
      have HL2 := Aside0.mk hl2
      clear hl2
      obtain ⟨A6, c6, rfl⟩ := Kd.R_slice ho
      have FR := Aside0.mk ho
      have FB := Aside0.mk hb
      clear ho hb hgr hat
      refine hK.out _ _ ⟨(blk_cell F0.out 1).trans rfl, (blk_cell FG.out 0).trans rfl, (blk_cell FG.out 1).trans rfl, (blk_cell FG.out 2).trans rfl, (blk_cell FG.out 3).trans rfl⟩ (fun hHeld => ?_)
      clear hK K
      refine norm_ (a' := ?_) ?_ ?_
      rotate_left
      · show Act.put _ (some 59) _ = _
        simp only [Act.put, List.setIfInBounds_toArray, List.set_cons_zero, List.set_cons_succ, i64_w, i32_w]
        rfl
      refine pure_ (i := 10) (N := some 60) (v := ?_) (a' := ?_) #[true, true, true, true, true, true, true, true, true, true, true, false, false, false, false] rfl rfl (any_of HT_.out (by kernel_rfl)) (fun _ _ _ h => h) (Or.inl ⟨by rfl, ?_⟩) ?_ ?_
      rotate_left
      · intro w'
        go_simp
        with_reducible rfl
      rotate_left
      · simp only [Act.put, List.setIfInBounds_toArray, List.set_cons_zero, List.set_cons_succ, i64_w, i32_w]
        rfl
      refine pure_ (i := 11) (N := some 61) (v := ?_) (a' := ?_) #[true, true, true, true, true, true, true, true, true, true, true, true, false, false, false] rfl rfl (any_of HT_.out (by kernel_rfl)) (fun _ _ _ h => h) (Or.inl ⟨by rfl, ?_⟩) ?_ ?_
      rotate_left
      · intro w'
        go_simp
        with_reducible rfl
      rotate_left
      · simp only [Act.put, List.setIfInBounds_toArray, List.set_cons_zero, List.set_cons_succ, i64_w, i32_w]
        rfl
      refine pure_ (i := 12) (N := some 62) (v := ?_) (a' := ?_) #[true, true, true, true, true, true, true, true, true, true, true, true, true, false, false] rfl rfl (any_of HT_.out (by kernel_rfl)) (fun _ _ _ h => h) (Or.inl ⟨by rfl, ?_⟩) ?_ ?_
      rotate_left
      · intro w'
        go_simp
        with_reducible rfl
      rotate_left
      · simp only [Act.put, List.setIfInBounds_toArray, List.set_cons_zero, List.set_cons_succ, i64_w, i32_w]
        rfl
      refine pure_ (i := 13) (N := some 63) (v := ?_) (a' := ?_) #[true, true, true, true, true, true, true, true, true, true, true, true, true, true, false] rfl rfl (any_of HT_.out (by kernel_rfl)) (fun _ _ _ h => h) (Or.inl ⟨by rfl, ?_⟩) ?_ ?_
      rotate_left
      · intro w'
        go_simp
        with_reducible rfl
      rotate_left
      · simp only [Act.put, List.setIfInBounds_toArray, List.set_cons_zero, List.set_cons_succ, i64_w, i32_w]
        rfl
      refine last_ (i := 14) (N := none) #[true, true, true, true, true, true, true, true, true, true, true, true, true, true, true] rfl rfl (one_of HT_.out (by kernel_rfl)) (by decide) (fun K hK => ?_)
      have hcz : w7.cell? ⟨g, 1, none⟩ = some (.slice A n c) := (blk_cell F0.out 1).trans rfl
      have hfz := blk_frozen F0.out 1
      refine skip_ (w1 := ?_) (by rfl) rfl ?_ ?_
      rotate_left
      · go_simp
        rfl
      clear hcz hfz
      refine hK.out _ _ ?_
      clear hK K
      refine done_ (done_of HT_.out (by kernel_rfl)) ?_
      clear hHeld HT_ HW_ hs0 hs1 hs2 hs3 hs4
      have HWp : Aside0 (Wz.heap.size ≤ wp.heap.size) := ⟨by have := HG.out; have := HGp.out; omega⟩
      have HA8 : Aside0 (AskW (w7.setCell ⟨g, 1, none⟩ (.slice A6 l2.length c6)) g 80 (rdR (some ad) bs.length cb ((nx + 5 : Nat) : Int)) G A6 l2.length c6 B (locs + x2) nx) := ⟨AskW.set1 F0.out⟩
      have HR8 : Aside0 (kH.R 46 (w7.setCell ⟨g, 1, none⟩ (.slice A6 l2.length c6)) wp.heap.size (fun k => wp.heap.size ≤ k) (.slice A6 l2.length c6) l2) := ⟨Kd.R_set FR.out F0.out (by decide) 1 _⟩
      have HZ8 : Aside0 (Below Wz.heap.size Wz (w7.setCell ⟨g, 1, none⟩ (.slice A6 l2.length c6))) := ⟨below_set ((HZ6.out.drew).trans (FB.out.mono HWp.out)) HG.out⟩
      have HK8 : Aside0 (KeepBut wp (w7.setCell ⟨g, 1, none⟩ (.slice A6 l2.length c6)) g none) := ⟨KeepBut.set_ ⟨Nat.le_trans HKq.out.1 FB.out.size, fun i hi hg hr => (FB.out.block i hi).trans (HKq.out.2 i hi hg hr)⟩ 1 _⟩
      have HT8 : Aside0 (KeepT [46] g w (w7.setCell ⟨g, 1, none⟩ (.slice A6 l2.length c6))) := ⟨((KeepT.of_keep HK6.out).trans (show KeepT [46] g w6 w7 from FT.out)).trans (KeepT.of_keep ((KeepBut.refl w7 g none).set_ 1 _))⟩
      obtain ⟨w8, hw8⟩ : ∃ w8, w8 = w7.setCell ⟨g, 1, none⟩ (.slice A6 l2.length c6) := ⟨_, rfl⟩
      rw [← hw8] at HA8 HR8 HZ8 HK8 HT8 ⊢
      clear hw8 F0 FT FG FR FB
      have HLn : Aside0 (l2.length = hs.length + 1) := ⟨by rw [HL2.out]; simp⟩
      go_wp2_with fail
      go_ret
      refine ⟨by rw [if_pos H0.out, if_pos HEv.out, HNv.out]; rfl, fun _ _ => ⟨A6, c6, ?_, ?_⟩, HZ8.out, HK8.out, HT8.out⟩
      · rw [HVv.out, ← HLn.out]; exact HA8.out
      · rw [← HLn.out, HHv.out, ← HL2.out]; exact HR8.out
    · rw [if_neg h1] at he
      subst he
      clear hok
      go_wp2_with fail
      exact ⟨rfl, by rw [if_pos H0.out, HEv.out, if_neg h1], fun _ h => absurd (HEv.out.symm.trans h) h1, HZ6.out, HKq.out, KeepT.of_keep HK6.out⟩
  · rw [if_neg h0]
    go_wp2_with fail
    exact ⟨rfl, by rw [if_neg h0], fun h => absurd h h0, HZ1.out, KeepBut.trans HKp.out HK1.out (.inl rfl), KeepT.of_keep HK1.out⟩
end Go.Proofs.YteonppgdmhakoaaDoor.PC
namespace Go.Proofs.YteonppgdmhakoaaDoor.PC
open Go.RowKit Go.Proofs.YteonppgdmhakoaaDoorW.PrintWords Go.Proofs.YteonppgdmhakoaaDoorW.PrintLast Go.Proofs.YteonppgdmhakoaaDoorW.PrintMore
set_option linter.unusedVariables false
set_option linter.unusedSimpArgs false
def TAB_99.T1 : Bool × List (List Nat × List Nat) := (true, [([], []), ([], []), ([1], [1]), ([2], [2]), ([], []), ([], []), ([], []), ([0, 3, 4, 5, 6], [0, 3, 4, 5, 6])])
def TAB_99.B1 : List Nat := [0, 0, 2, 6, 0, 0, 0, 127]
theorem TAB_99.tab1 : rtab .any (opsOf Tryd.f99 1) = TAB_99.T1 := by kernel_rfl
theorem TAB_99.bits1 : waitsOk TAB_99.T1.2 TAB_99.B1 = true := by kernel_rfl
def TAB_101.T1 : Bool × List (List Nat × List Nat) := (true, [([], []), ([], []), ([1], [1]), ([2], [2]), ([], []), ([], []), ([], []), ([0, 3, 4, 5, 6], [0, 3, 4, 5, 6])])
def TAB_101.B1 : List Nat := [0, 0, 2, 6, 0, 0, 0, 127]
theorem TAB_101.tab1 : rtab .any (opsOf Tryd.f101 1) = TAB_101.T1 := by kernel_rfl
theorem TAB_101.bits1 : waitsOk TAB_101.T1.2 TAB_101.B1 = true := by kernel_rfl
theorem KeepBut.cell {w w' : World} {g : Nat} {a : Addr} {v : Value} (h : KeepBut w w' g none) (hc : w.cell? a = some v) (hg : a.block ≠ g) : w'.cell? a = some v := by
  have hlt := World.block_lt_of_cell? w a hc
  have he := h.2 a.block hlt hg (by simp)
  rw [← hc]
  unfold World.cell?
  rw [he]
theorem blk_ne_ty {w : World} {a b : Nat} {cs ds : Array Value} {t u : TypeId} (ha : w.heap[a]? = some (.cells cs t (0, 0))) (hb : w.heap[b]? = some (.cells ds u (0, 0))) (h : t ≠ u) : a ≠ b := fun e => by
  subst e
  rw [ha] at hb
  injection hb with hb
  injection hb with _ hb
  exact h hb
theorem PartIs.keep {w w' : World} {g : Nat} {ds : Array Value} (hk : KeepBut w w' g none) (hg : w.heap[g]? = some (.cells ds 80 (0, 0))) : ∀ {k : PK} {cs : List Value}, PartIs w k cs → PartIs w' k cs := by
  have go : ∀ {b : Nat} {cs : Array Value} {t : TypeId}, t ≠ 80 → w.heap[b]? = some (.cells cs t (0, 0)) → w'.heap[b]? = some (.cells cs t (0, 0)) := fun ht hb => hk.blk hb (blk_ne_ty hb hg ht) (by simp)
  have hv : ∀ {m : Int} {f : Nat} {cs : List Value}, VarIs w m f cs → VarIs w' m f cs := fun h => by
    obtain ⟨b1, b2, h0, h1, h2⟩ := h
    exact ⟨b1, b2, h0, go (by decide) h1, go (by decide) h2⟩
  have hn : ∀ {lo err : Int} {f : Nat} {cs : List Value}, NumIs w lo err f cs → NumIs w' lo err f cs := fun h => by
    obtain ⟨b1, b3, b4, b5, h0, h1, h3, h4, h5⟩ := h
    exact ⟨b1, b3, b4, b5, h0, go (by decide) h1, go (by decide) h3, go (by decide) h4, go (by decide) h5⟩
  have hl : ∀ {m : Int} {f g : Nat} {cs : List Value}, ListIs w m f g cs → ListIs w' m f g cs := fun h => by
    obtain ⟨b4, b5, h0, h4, h5⟩ := h
    exact ⟨b4, b5, h0, go (by decide) h4, go (by decide) h5⟩
  intro k cs h
  cases k
  case int =>
    obtain ⟨b1, h0, h1⟩ := h
    exact ⟨b1, h0, go (by decide) h1⟩
  case R => exact hv h
  case S => exact hv h
  case T => exact hv h
  case args => exact hl h
  case rets => exact hl h
  case vals => exact hl h
  all_goals exact hn h
abbrev kI : Kd Int := Kd.int .i64
def XBlk (w : World) (gx : Nat) (x : S50) (v5 v6 : Value) : Prop := w.heap[gx]? = some (.cells #[.int .i64 x.f0, .int .i64 x.f1, .int .i64 x.f2, .int .i64 x.f3, .int .i64 x.f4, v5, v6] 50 (0, 0))
def XAt (wI w : World) (gx : Nat) (x : S50) : Prop := ∃ v5 v6, XBlk w gx x v5 v6 ∧ kI.R 3 w wI.heap.size (fun k => wI.heap.size ≤ k ∧ some k ≠ v6.ownBlock) v5 x.f5 ∧ kI.R 3 w wI.heap.size (fun k => wI.heap.size ≤ k ∧ some k ≠ v5.ownBlock) v6 x.f6
def setF (x : S50) : Nat → Int → S50
  | 1, v => { x with f1 := v }
  | 2, v => { x with f2 := v }
  | 3, v => { x with f3 := v }
  | _, v => { x with f4 := v }
theorem XBlk.set {w : World} {gx : Nat} {x : S50} {v5 v6 : Value} (h : XBlk w gx x v5 v6) (i : Nat) (hi : i = 1 ∨ i = 2 ∨ i = 3 ∨ i = 4) (v : Int) : XBlk (w.setCell ⟨gx, i, none⟩ (.int .i64 v)) gx (setF x i v) v5 v6 := by
  rcases hi with rfl | rfl | rfl | rfl <;> exact (blk_set h _ _).trans rfl
theorem setF_5 (x : S50) (i : Nat) (v : Int) : (setF x i v).f5 = x.f5 := by unfold setF; split <;> rfl
theorem setF_6 (x : S50) (i : Nat) (v : Int) : (setF x i v).f6 = x.f6 := by unfold setF; split <;> rfl
theorem setF_0 (x : S50) (i : Nat) (v : Int) : (setF x i v).f0 = x.f0 := by unfold setF; split <;> rfl
theorem XAt.set {wI w : World} {gx : Nat} {x : S50} (h : XAt wI w gx x) (i : Nat) (hi : i = 1 ∨ i = 2 ∨ i = 3 ∨ i = 4) (v : Int) : XAt wI (w.setCell ⟨gx, i, none⟩ (.int .i64 v)) gx (setF x i v) := by
  obtain ⟨v5, v6, hb, h5, h6⟩ := h
  exact ⟨v5, v6, hb.set i hi v, by rw [setF_5]; exact Kd.R_set h5 hb (by decide) i _, by rw [setF_6]; exact Kd.R_set h6 hb (by decide) i _⟩
theorem XAt.below {wI w w' : World} {gx : Nat} {x : S50} (h : XAt wI w gx x) (hb : Below w.heap.size w w') : XAt wI w' gx x := by
  obtain ⟨v5, v6, hx, h5, h6⟩ := h
  exact ⟨v5, v6, blk_below hx hb, Kd.R_below h5 hb, Kd.R_below h6 hb⟩
theorem XAt.keep {wI w w' : World} {g gx : Nat} {x : S50} (h : XAt wI w gx x) (hk : KeepBut w w' g none) (hg : g < wI.heap.size) (hgx : wI.heap.size ≤ gx) : XAt wI w' gx x := by
  obtain ⟨v5, v6, hx, h5, h6⟩ := h
  exact ⟨v5, v6, hk.blk hx (by omega) (by simp), Kd.R_keep h5 hk (fun k hk => by have := hk.1; omega), Kd.R_keep h6 hk (fun k hk => by have := hk.1; omega)⟩
theorem XAt.ins {wI w : World} {gx : Nat} {x : S50} (h : XAt wI w gx x) : ∃ A5 c5 A6 c6, InsW w ⟨gx, 0, none⟩ x A5 c5 A6 c6 ∧ kI.C w A5 x.f5.length x.f5 ∧ kI.C w A6 x.f6.length x.f6 := by
  obtain ⟨v5, v6, hx, h5, h6⟩ := h
  obtain ⟨A5, c5, rfl, _, g5⟩ := Kd.R_reads h5
  obtain ⟨A6, c6, rfl, _, g6⟩ := Kd.R_reads h6
  exact ⟨A5, c5, A6, c6, ⟨(blk_cell hx 0).trans rfl, (blk_cell hx 1).trans rfl, (blk_cell hx 2).trans rfl, (blk_cell hx 3).trans rfl, (blk_cell hx 4).trans rfl, (blk_cell hx 5).trans rfl, (blk_cell hx 6).trans rfl⟩, g5, g6⟩
def TakePost (Wz wI : World) (g gx : Nat) (Ab : Option Addr) (cb : Nat) (bs : List Int) (G : Int) (A : Option Addr) (n c B : Nat) (locs : Int) (r : Except (Int × Int) (S50 × Nat)) (e : Ending) (w' : World) : Prop :=
  Below Wz.heap.size Wz w' ∧ KeepBut wI w' g none ∧ match r with
  | .error er => e = .panicked [{ v := stopV er.1 er.2, recovered := false }]
  | .ok s => e = .returned (.tuple #[]) ∧ (∃ at_, AskW w' g 80 (rdR Ab bs.length cb (s.2 : Int)) G A n c B locs at_) ∧ XAt wI w' gx s.1
theorem num_one (bs : List Int) (nx : Nat) (hby : ∀ x ∈ bs, 0 ≤ x ∧ x ≤ 255) : wrap64 (upN bs nx 1 1) = bs.getD nx 0 := by
  have h := upN_small bs nx 1 hby 1 (by omega)
  rw [wrap_in (by omega) (by omega)]
  show 0 * 256 + bs.getD (nx + (1 - 1 - 0)) 0 = _
  rw [Nat.sub_self, Nat.add_zero]
  omega
def takeF (bs : List Int) (nx k : Nat) (x' : S50) (er : Int) : Except (Int × Int) (S50 × Nat) :=
  if nx + k ≤ bs.length then (if er = 0 then .ok (x', nx + k) else .error (er, nx)) else .error (11, bs.length)
set_option maxRecDepth 100000 in
set_option maxHeartbeats 8000000 in
theorem take_var (f i : Nat) (hof : ∀ (q : Addr) (w : World), Calls Tryd.prog f #[.pointer (some q)] w fun e w' => e = .returned (.pointer (some ⟨q.block, q.off + i, none⟩)) ∧ w = w') (hf : f = 69 ∧ i = 1 ∨ f = 70 ∧ i = 2 ∨ f = 71 ∧ i = 3)
    (g gx b1 b2 fn : Nat) (cap : Array Value) (hen : Enters fn) (qf : Addr) (m er : Int) (G : Int) (A : Option Addr) (n c B : Nat) (locs at_ : Int) (Ab : Option Addr) (cb : Nat) (bs : List Int) (nx : Nat) (x : S50) (Wz wI w : World)
    (hz : Below Wz.heap.size Wz w) (hg : Wz.heap.size ≤ g) (hgI : g < wI.heap.size) (hgx : wI.heap.size ≤ gx) (hkp : KeepBut wI w g none) (hA : AskW w g 80 (rdR Ab bs.length cb nx) G A n c B locs at_) (hB : kB.C Wz Ab bs.length bs) (hnx : nx ≤ bs.length) (hby : ∀ x ∈ bs, 0 ≤ x ∧ x ≤ 255) (hX : XAt wI w gx x)
    (hb1 : w.heap[b1]? = some (.cells #[.func (Fn.func f) #[] #[]] 108 (0, 0))) (hb2 : w.heap[b2]? = some (.cells #[.func (Fn.func fn) #[] cap] 65 (0, 0)))
    (hask : nx + 1 ≤ bs.length → ∀ w' : World, AskW w' g 80 (rdR Ab bs.length cb ((nx + 1 : Nat) : Int)) G A n c B locs nx → XAt wI w' gx (setF x i (bs.getD nx 0)) → KeepBut wI w' g none → Calls Tryd.prog fn (#[.pointer (some ⟨g, 0, none⟩), .pointer (some qf), .pointer (some ⟨gx, 0, none⟩), .int .i64 m] ++ cap) w' fun e w'' => AskPost w' er nx e w'') :
    Calls Tryd.prog 99 #[.pointer (some ⟨g, 0, none⟩), .pointer (some qf), .pointer (some ⟨gx, 0, none⟩), .int .i64 m, .pointer (some ⟨b1, 0, none⟩), .pointer (some ⟨b2, 0, none⟩)] w fun e w' => TakePost Wz wI g gx Ab cb bs G A n c B locs (takeF bs nx 1 (setF x i (bs.getD nx 0)) er) e w' := by
  have HN := Aside0.mk (number_rd g 1 (by omega) G A n c B locs at_ Ab cb bs nx Wz w hz hg hA hB hnx hby)
  have HO := Aside0.mk hof
  have HZ := Aside0.mk hz
  have HG := Aside0.mk hg
  have HGi := Aside0.mk hgI
  have HGx := Aside0.mk hgx
  have HKp := Aside0.mk hkp
  have HX := Aside0.mk hX
  have HAsk := Aside0.mk hask
  have HNo := Aside0.mk (num_one bs nx hby)
  have hen' : ∀ (args : Array Value) (w : World), (callFunc fn args).run Tryd.prog w = .ok (.enter fn args) w := hen
  have hc1 : w.cell? ⟨b1, 0, none⟩ = some (.func (Fn.func f) #[] #[]) := (blk_cell hb1 0).trans rfl
  have HB2 := Aside0.mk hb2
  have Hb2g : Aside0 (b2 ≠ g) := ⟨blk_ne_ty hb2 hA (by decide)⟩
  have Hb2x : Aside0 (b2 ≠ gx) := ⟨by obtain ⟨_, _, hx, _⟩ := hX; exact blk_ne_ty hb2 hx (by decide)⟩
  have HI : Aside0 (i = 1 ∨ i = 2 ∨ i = 3 ∨ i = 4) := ⟨by omega⟩
  clear hof hz hg hgI hgx hkp hA hB hX hask hb1 hb2 hen hnx hby
  rcases hf with ⟨rfl, rfl⟩ | ⟨rfl, rfl⟩ | ⟨rfl, rfl⟩
  · go_enter Tryd.func99, Tryd.ntmps99
    go_wp2_with (go_at_call 69; refine (HO.out _ _).mono ?_; rintro e w' ⟨rfl, rfl⟩)
    refine HN.out.mono ?_
    rintro e w' ⟨rfl, hA1, hZ1, hK1⟩
    have HZ1 := Aside0.mk hZ1
    have HK1 := Aside0.mk hK1
    have HX1 := Aside0.mk (HX.out.keep hK1 HGi.out HGx.out)
    have HKp1 : Aside0 (KeepBut wI w' g none) := ⟨KeepBut.trans HKp.out hK1 (.inl rfl)⟩
    have B21 := Aside0.mk (hK1.blk HB2.out Hb2g.out (by simp))
    clear hZ1 hK1 HN hc1 HX HK1
    obtain ⟨w1, rfl⟩ : ∃ w1, w1 = w' := ⟨_, rfl⟩
    by_cases h0 : nx + 1 ≤ bs.length
    · have HA1 := Aside0.mk (hA1 h0)
      have H0 := Aside0.mk h0
      rw [if_pos h0, HNo.out]
      have HAsk := Aside0.mk (HAsk.out h0)
      clear hA1 h0
      obtain ⟨v, hv⟩ : ∃ v, v = bs.getD nx 0 := ⟨_, rfl⟩
      have HV := Aside0.mk hv
      rw [← hv] at HAsk ⊢
      clear hv
      obtain ⟨hbx, hfx⟩ : w1.cell? ⟨gx, 1, none⟩ = some (.int .i64 x.f1) ∧ w1.frozen? ⟨gx, 1, none⟩ = false := by obtain ⟨v5, v6, hxb, _⟩ := HX1.out; exact ⟨(blk_cell hxb 1).trans rfl, blk_frozen hxb 1⟩
      have HNg : Aside0 (g ≠ gx) := ⟨by have := HGi.out; have := HGx.out; omega⟩
      go_wp2_with fail
      have HX2 := Aside0.mk (HX1.out.set 1 (by omega) v)
      have HA2 : Aside0 (AskW (w1.setCell ⟨gx, 1, none⟩ (.int .i64 v)) g 80 (rdR Ab bs.length cb ((nx + 1 : Nat) : Int)) G A n c B locs nx) := ⟨(Below.heap_setCell w1 ⟨gx, 1, none⟩ (.int .i64 v) g HNg.out).trans HA1.out⟩
      have HZ2 : Aside0 (Below Wz.heap.size Wz (w1.setCell ⟨gx, 1, none⟩ (.int .i64 v))) := ⟨below_set HZ1.out (by have := HG.out; have := HGi.out; have := HGx.out; omega)⟩
      have HK2 : Aside0 (KeepBut wI (w1.setCell ⟨gx, 1, none⟩ (.int .i64 v)) g none) := ⟨⟨by simpa [World.setCell] using HKp1.out.1, fun j hj hg hr => (Below.heap_setCell w1 ⟨gx, 1, none⟩ (.int .i64 v) j (fun e => by have := HGx.out; have e2 : j = gx := e; omega)).trans (HKp1.out.2 j hj hg hr)⟩⟩
      have B22 : Aside0 ((w1.setCell ⟨gx, 1, none⟩ (.int .i64 v)).heap[b2]? = some (.cells #[.func (Fn.func fn) #[] cap] 65 (0, 0))) := ⟨(Below.heap_setCell w1 ⟨gx, 1, none⟩ (.int .i64 v) b2 Hb2x.out).trans B21.out⟩
      obtain ⟨w2, hw2⟩ : ∃ w2, w2 = w1.setCell ⟨gx, 1, none⟩ (.int .i64 v) := ⟨_, rfl⟩
      rw [← hw2] at HX2 HA2 HZ2 HK2 B22 ⊢
      clear hw2 HX1 HA1 HZ1 HKp1 B21 hbx hfx
      have hb2 : w2.cell? ⟨b2, 0, none⟩ = some (.func (Fn.func fn) #[] cap) := (blk_cell B22.out 0).trans rfl
      have HC := Aside0.mk (HAsk.out w2.drew HA2.out (HX2.out.below (below_drew (Below.refl _ _))) HK2.out)
      by_cases h1 : er = 0
      · have HC2 : Aside0 (Calls Tryd.prog fn (#[.pointer (some ⟨g, 0, none⟩), .pointer (some qf), .pointer (some ⟨gx, 0, none⟩), .int .i64 m] ++ cap) w2.drew fun e w'' => e = .returned (.tuple #[]) ∧ Below w2.drew.heap.size w2.drew w'') := ⟨HC.out.mono fun e w'' h => ⟨by rw [h.1, if_pos h1], h.2⟩⟩
        refine start_ (n := 8) (S := fun w' => w'.cell? ⟨b2, 0, none⟩ = some (.func (Fn.func fn) #[] cap)) (ds := []) #[false, false, false, false, false, false, false, false] (by kernel_rfl) rfl rfl (hb2) (fun hHeld => ?_)
        refine with_tabW TAB_99.tab1 TAB_99.bits1 (fun HT_ HW_ => ?_)
        refine pure_ (i := 1) (N := some 17) (v := ?_) (a' := ?_) #[false, true, false, false, false, false, false, false] rfl rfl (any_of HT_.out (by kernel_rfl)) (fun _ _ _ h => h) (Or.inl ⟨by rfl, ?_⟩) ?_ ?_
        rotate_left
        · intro w'
          go_simp
          with_reducible rfl
        rotate_left
        · simp only [Act.put, List.setIfInBounds_toArray, List.set_cons_zero, List.set_cons_succ, i64_w, i32_w]
          rfl
        refine pure_ (i := 2) (N := some 18) (v := ?_) (a' := ?_) #[false, true, true, false, false, false, false, false] rfl rfl (any_of HT_.out (by kernel_rfl)) (fun _ _ _ h => h) (Or.inl ⟨by rfl, ?_⟩) ?_ ?_
        rotate_left
        · intro w'
          go_simp
          with_reducible rfl
        rotate_left
        · simp only [Act.put, List.setIfInBounds_toArray, List.set_cons_zero, List.set_cons_succ, i64_w, i32_w]
          rfl
        refine pure_ (i := 3) (N := some 19) (v := ?_) (a' := ?_) #[false, true, true, true, false, false, false, false] rfl rfl (any_of HT_.out (by kernel_rfl)) (fun _ _ _ h => h) (Or.inl ⟨by rfl, ?_⟩) ?_ ?_
        rotate_left
        · intro w'
          go_simp
          with_reducible rfl
        rotate_left
        · simp only [Act.put, List.setIfInBounds_toArray, List.set_cons_zero, List.set_cons_succ, i64_w, i32_w]
          rfl
        refine pure_ (i := 4) (N := some 20) (v := ?_) (a' := ?_) #[false, true, true, true, true, false, false, false] rfl rfl (any_of HT_.out (by kernel_rfl)) (fun _ _ _ h => h) (Or.inl ⟨by rfl, ?_⟩) ?_ ?_
        rotate_left
        · intro w'
          go_simp
          with_reducible rfl
        rotate_left
        · simp only [Act.put, List.setIfInBounds_toArray, List.set_cons_zero, List.set_cons_succ, i64_w, i32_w]
          rfl
        refine pure_ (i := 5) (N := some 21) (v := ?_) (a' := ?_) #[false, true, true, true, true, true, false, false] rfl rfl (any_of HT_.out (by kernel_rfl)) (fun _ _ _ h => h) (Or.inl ⟨by rfl, ?_⟩) ?_ ?_
        rotate_left
        · intro w'
          go_simp
          with_reducible rfl
        rotate_left
        · simp only [Act.put, List.setIfInBounds_toArray, List.set_cons_zero, List.set_cons_succ, i64_w, i32_w]
          rfl
        refine pure_ (i := 6) (N := some 22) (v := ?_) (a' := ?_) #[false, true, true, true, true, true, true, false] rfl rfl (any_of HT_.out (by kernel_rfl)) (fun _ _ _ h => h) (Or.inl ⟨by rfl, ?_⟩) ?_ ?_
        rotate_left
        · intro w'
          go_simp
          with_reducible rfl
        rotate_left
        · simp only [Act.put, List.setIfInBounds_toArray, List.set_cons_zero, List.set_cons_succ, i64_w, i32_w]
          rfl
        refine take_ (i := 0) (N := some 16) (v := ?_) (a' := ?_) #[true, true, true, true, true, true, true, false] rfl rfl (take_ofW HT_.out HW_.out (by kernel_rfl)) (fun _ _ _ h => h) (Or.inl ⟨by rfl, ?_⟩) hHeld ?_ ?_
        rotate_left
        · intro w' s0
          go_simp
          with_reducible rfl
        rotate_left
        · simp only [Act.put, List.setIfInBounds_toArray, List.set_cons_zero, List.set_cons_succ, i64_w, i32_w]
          rfl
        refine one_ (i := 7) (N := some 23) #[true, true, true, true, true, true, true, true] rfl rfl (one_of HT_.out (by kernel_rfl)) (by decide) (fun K hK => ?_)
        refine goesV_ hen' (#[.pointer (some ⟨g, 0, none⟩), .pointer (some qf), .pointer (some ⟨gx, 0, none⟩), .int .i64 m] ++ cap) (by rfl) rfl rfl rfl (by simp only [List.map_toArray, List.map_cons, List.map_nil]; rfl) ?_
        with_reducible refine HC2.out.mono ?_
        rintro e_ wm ⟨rfl, hb⟩
        refine ⟨_, rfl, ?_⟩
        have HBm := Aside0.mk hb
        clear hb
        refine hK.out _ _ (pw_cell_below HBm.out hb2) (fun hHeld => ?_)
        clear hK K
        refine norm_ (a' := ?_) ?_ ?_
        rotate_left
        · show Act.put _ (some 23) _ = _
          simp only [Act.put, List.setIfInBounds_toArray, List.set_cons_zero, List.set_cons_succ, i64_w, i32_w]
          rfl
        refine done_ (done_of HT_.out (by kernel_rfl)) ?_
        clear hHeld HT_ HW_
        go_end0
        refine ⟨HZ2.out.drew.trans (HBm.out.mono HZ2.out.size), KeepBut.trans HK2.out (KeepBut.of_below (show Below w2.heap.size w2 wm from (below_drew (Below.refl _ _)).trans HBm.out) g none) (.inl rfl), ?_⟩
        unfold takeF
        rw [if_pos H0.out, if_pos h1, ← HV.out]
        exact ⟨rfl, ⟨nx, AskW.below (w := w2.drew) HA2.out HBm.out⟩, XAt.below (w := w2.drew) (HX2.out.below (below_drew (Below.refl _ _))) HBm.out⟩
      · have HC2 : Aside0 (Calls Tryd.prog fn (#[.pointer (some ⟨g, 0, none⟩), .pointer (some qf), .pointer (some ⟨gx, 0, none⟩), .int .i64 m] ++ cap) w2.drew fun e w'' => e = .panicked [{ v := stopV er nx, recovered := false }] ∧ Below w2.drew.heap.size w2.drew w'') := ⟨HC.out.mono fun e w'' h => ⟨by rw [h.1, if_neg h1], h.2⟩⟩
        refine start_ (n := 8) (S := fun w' => w'.cell? ⟨b2, 0, none⟩ = some (.func (Fn.func fn) #[] cap)) (ds := []) #[false, false, false, false, false, false, false, false] (by kernel_rfl) rfl rfl (hb2) (fun hHeld => ?_)
        refine with_tabW TAB_99.tab1 TAB_99.bits1 (fun HT_ HW_ => ?_)
        refine pure_ (i := 1) (N := some 17) (v := ?_) (a' := ?_) #[false, true, false, false, false, false, false, false] rfl rfl (any_of HT_.out (by kernel_rfl)) (fun _ _ _ h => h) (Or.inl ⟨by rfl, ?_⟩) ?_ ?_
        rotate_left
        · intro w'
          go_simp
          with_reducible rfl
        rotate_left
        · simp only [Act.put, List.setIfInBounds_toArray, List.set_cons_zero, List.set_cons_succ, i64_w, i32_w]
          rfl
        refine pure_ (i := 2) (N := some 18) (v := ?_) (a' := ?_) #[false, true, true, false, false, false, false, false] rfl rfl (any_of HT_.out (by kernel_rfl)) (fun _ _ _ h => h) (Or.inl ⟨by rfl, ?_⟩) ?_ ?_
        rotate_left
        · intro w'
          go_simp
          with_reducible rfl
        rotate_left
        · simp only [Act.put, List.setIfInBounds_toArray, List.set_cons_zero, List.set_cons_succ, i64_w, i32_w]
          rfl
        refine pure_ (i := 3) (N := some 19) (v := ?_) (a' := ?_) #[false, true, true, true, false, false, false, false] rfl rfl (any_of HT_.out (by kernel_rfl)) (fun _ _ _ h => h) (Or.inl ⟨by rfl, ?_⟩) ?_ ?_
        rotate_left
        · intro w'
          go_simp
          with_reducible rfl
        rotate_left
        · simp only [Act.put, List.setIfInBounds_toArray, List.set_cons_zero, List.set_cons_succ, i64_w, i32_w]
          rfl
        refine pure_ (i := 4) (N := some 20) (v := ?_) (a' := ?_) #[false, true, true, true, true, false, false, false] rfl rfl (any_of HT_.out (by kernel_rfl)) (fun _ _ _ h => h) (Or.inl ⟨by rfl, ?_⟩) ?_ ?_
        rotate_left
        · intro w'
          go_simp
          with_reducible rfl
        rotate_left
        · simp only [Act.put, List.setIfInBounds_toArray, List.set_cons_zero, List.set_cons_succ, i64_w, i32_w]
          rfl
        refine pure_ (i := 5) (N := some 21) (v := ?_) (a' := ?_) #[false, true, true, true, true, true, false, false] rfl rfl (any_of HT_.out (by kernel_rfl)) (fun _ _ _ h => h) (Or.inl ⟨by rfl, ?_⟩) ?_ ?_
        rotate_left
        · intro w'
          go_simp
          with_reducible rfl
        rotate_left
        · simp only [Act.put, List.setIfInBounds_toArray, List.set_cons_zero, List.set_cons_succ, i64_w, i32_w]
          rfl
        refine pure_ (i := 6) (N := some 22) (v := ?_) (a' := ?_) #[false, true, true, true, true, true, true, false] rfl rfl (any_of HT_.out (by kernel_rfl)) (fun _ _ _ h => h) (Or.inl ⟨by rfl, ?_⟩) ?_ ?_
        rotate_left
        · intro w'
          go_simp
          with_reducible rfl
        rotate_left
        · simp only [Act.put, List.setIfInBounds_toArray, List.set_cons_zero, List.set_cons_succ, i64_w, i32_w]
          rfl
        refine take_ (i := 0) (N := some 16) (v := ?_) (a' := ?_) #[true, true, true, true, true, true, true, false] rfl rfl (take_ofW HT_.out HW_.out (by kernel_rfl)) (fun _ _ _ h => h) (Or.inl ⟨by rfl, ?_⟩) hHeld ?_ ?_
        rotate_left
        · intro w' s0
          go_simp
          with_reducible rfl
        rotate_left
        · simp only [Act.put, List.setIfInBounds_toArray, List.set_cons_zero, List.set_cons_succ, i64_w, i32_w]
          rfl
        refine one_ (i := 7) (N := some 23) #[true, true, true, true, true, true, true, true] rfl rfl (one_of HT_.out (by kernel_rfl)) (by decide) (fun K hK => ?_)
        refine goesVP_ hen' (#[.pointer (some ⟨g, 0, none⟩), .pointer (some qf), .pointer (some ⟨gx, 0, none⟩), .int .i64 m] ++ cap) (by rfl) rfl rfl rfl (by simp only [List.map_toArray, List.map_cons, List.map_nil]; rfl) ?_
        with_reducible refine HC2.out.mono ?_
        rintro e_ wm ⟨rfl, hb⟩
        refine ⟨_, rfl, ?_⟩
        refine ⟨rfl, HZ2.out.drew.trans (hb.mono HZ2.out.size), KeepBut.trans HK2.out (KeepBut.of_below (show Below w2.heap.size w2 wm from (below_drew (Below.refl _ _)).trans hb) g none) (.inl rfl), ?_⟩
        unfold takeF
        rw [if_pos H0.out, if_neg h1]
    · rw [if_neg h0]
      go_wp2_with fail
      refine ⟨rfl, HZ1.out, HKp1.out, ?_⟩
      unfold takeF
      rw [if_neg h0]
  · go_enter Tryd.func99, Tryd.ntmps99
    go_wp2_with (go_at_call 70; refine (HO.out _ _).mono ?_; rintro e w' ⟨rfl, rfl⟩)
    refine HN.out.mono ?_
    rintro e w' ⟨rfl, hA1, hZ1, hK1⟩
    have HZ1 := Aside0.mk hZ1
    have HK1 := Aside0.mk hK1
    have HX1 := Aside0.mk (HX.out.keep hK1 HGi.out HGx.out)
    have HKp1 : Aside0 (KeepBut wI w' g none) := ⟨KeepBut.trans HKp.out hK1 (.inl rfl)⟩
    have B21 := Aside0.mk (hK1.blk HB2.out Hb2g.out (by simp))
    clear hZ1 hK1 HN hc1 HX HK1
    obtain ⟨w1, rfl⟩ : ∃ w1, w1 = w' := ⟨_, rfl⟩
    by_cases h0 : nx + 1 ≤ bs.length
    · have HA1 := Aside0.mk (hA1 h0)
      have H0 := Aside0.mk h0
      rw [if_pos h0, HNo.out]
      have HAsk := Aside0.mk (HAsk.out h0)
      clear hA1 h0
      obtain ⟨v, hv⟩ : ∃ v, v = bs.getD nx 0 := ⟨_, rfl⟩
      have HV := Aside0.mk hv
      rw [← hv] at HAsk ⊢
      clear hv
      obtain ⟨hbx, hfx⟩ : w1.cell? ⟨gx, 2, none⟩ = some (.int .i64 x.f2) ∧ w1.frozen? ⟨gx, 2, none⟩ = false := by obtain ⟨v5, v6, hxb, _⟩ := HX1.out; exact ⟨(blk_cell hxb 2).trans rfl, blk_frozen hxb 2⟩
      have HNg : Aside0 (g ≠ gx) := ⟨by have := HGi.out; have := HGx.out; omega⟩
      go_wp2_with fail
      have HX2 := Aside0.mk (HX1.out.set 2 (by omega) v)
      have HA2 : Aside0 (AskW (w1.setCell ⟨gx, 2, none⟩ (.int .i64 v)) g 80 (rdR Ab bs.length cb ((nx + 1 : Nat) : Int)) G A n c B locs nx) := ⟨(Below.heap_setCell w1 ⟨gx, 2, none⟩ (.int .i64 v) g HNg.out).trans HA1.out⟩
      have HZ2 : Aside0 (Below Wz.heap.size Wz (w1.setCell ⟨gx, 2, none⟩ (.int .i64 v))) := ⟨below_set HZ1.out (by have := HG.out; have := HGi.out; have := HGx.out; omega)⟩
      have HK2 : Aside0 (KeepBut wI (w1.setCell ⟨gx, 2, none⟩ (.int .i64 v)) g none) := ⟨⟨by simpa [World.setCell] using HKp1.out.1, fun j hj hg hr => (Below.heap_setCell w1 ⟨gx, 2, none⟩ (.int .i64 v) j (fun e => by have := HGx.out; have e2 : j = gx := e; omega)).trans (HKp1.out.2 j hj hg hr)⟩⟩
      have B22 : Aside0 ((w1.setCell ⟨gx, 2, none⟩ (.int .i64 v)).heap[b2]? = some (.cells #[.func (Fn.func fn) #[] cap] 65 (0, 0))) := ⟨(Below.heap_setCell w1 ⟨gx, 2, none⟩ (.int .i64 v) b2 Hb2x.out).trans B21.out⟩
      obtain ⟨w2, hw2⟩ : ∃ w2, w2 = w1.setCell ⟨gx, 2, none⟩ (.int .i64 v) := ⟨_, rfl⟩
      rw [← hw2] at HX2 HA2 HZ2 HK2 B22 ⊢
      clear hw2 HX1 HA1 HZ1 HKp1 B21 hbx hfx
      have hb2 : w2.cell? ⟨b2, 0, none⟩ = some (.func (Fn.func fn) #[] cap) := (blk_cell B22.out 0).trans rfl
      have HC := Aside0.mk (HAsk.out w2.drew HA2.out (HX2.out.below (below_drew (Below.refl _ _))) HK2.out)
      by_cases h1 : er = 0
      · have HC2 : Aside0 (Calls Tryd.prog fn (#[.pointer (some ⟨g, 0, none⟩), .pointer (some qf), .pointer (some ⟨gx, 0, none⟩), .int .i64 m] ++ cap) w2.drew fun e w'' => e = .returned (.tuple #[]) ∧ Below w2.drew.heap.size w2.drew w'') := ⟨HC.out.mono fun e w'' h => ⟨by rw [h.1, if_pos h1], h.2⟩⟩
        refine start_ (n := 8) (S := fun w' => w'.cell? ⟨b2, 0, none⟩ = some (.func (Fn.func fn) #[] cap)) (ds := []) #[false, false, false, false, false, false, false, false] (by kernel_rfl) rfl rfl (hb2) (fun hHeld => ?_)
        refine with_tabW TAB_99.tab1 TAB_99.bits1 (fun HT_ HW_ => ?_)
        refine pure_ (i := 1) (N := some 17) (v := ?_) (a' := ?_) #[false, true, false, false, false, false, false, false] rfl rfl (any_of HT_.out (by kernel_rfl)) (fun _ _ _ h => h) (Or.inl ⟨by rfl, ?_⟩) ?_ ?_
        rotate_left
        · intro w'
          go_simp
          with_reducible rfl
        rotate_left
        · simp only [Act.put, List.setIfInBounds_toArray, List.set_cons_zero, List.set_cons_succ, i64_w, i32_w]
          rfl
        refine pure_ (i := 2) (N := some 18) (v := ?_) (a' := ?_) #[false, true, true, false, false, false, false, false] rfl rfl (any_of HT_.out (by kernel_rfl)) (fun _ _ _ h => h) (Or.inl ⟨by rfl, ?_⟩) ?_ ?_
        rotate_left
        · intro w'
          go_simp
          with_reducible rfl
        rotate_left
        · simp only [Act.put, List.setIfInBounds_toArray, List.set_cons_zero, List.set_cons_succ, i64_w, i32_w]
          rfl
        refine pure_ (i := 3) (N := some 19) (v := ?_) (a' := ?_) #[false, true, true, true, false, false, false, false] rfl rfl (any_of HT_.out (by kernel_rfl)) (fun _ _ _ h => h) (Or.inl ⟨by rfl, ?_⟩) ?_ ?_
        rotate_left
        · intro w'
          go_simp
          with_reducible rfl
        rotate_left
        · simp only [Act.put, List.setIfInBounds_toArray, List.set_cons_zero, List.set_cons_succ, i64_w, i32_w]
          rfl
        refine pure_ (i := 4) (N := some 20) (v := ?_) (a' := ?_) #[false, true, true, true, true, false, false, false] rfl rfl (any_of HT_.out (by kernel_rfl)) (fun _ _ _ h => h) (Or.inl ⟨by rfl, ?_⟩) ?_ ?_
        rotate_left
        · intro w'
          go_simp
          with_reducible rfl
        rotate_left
        · simp only [Act.put, List.setIfInBounds_toArray, List.set_cons_zero, List.set_cons_succ, i64_w, i32_w]
          rfl
        refine pure_ (i := 5) (N := some 21) (v := ?_) (a' := ?_) #[false, true, true, true, true, true, false, false] rfl rfl (any_of HT_.out (by kernel_rfl)) (fun _ _ _ h => h) (Or.inl ⟨by rfl, ?_⟩) ?_ ?_
        rotate_left
        · intro w'
          go_simp
          with_reducible rfl
        rotate_left
        · simp only [Act.put, List.setIfInBounds_toArray, List.set_cons_zero, List.set_cons_succ, i64_w, i32_w]
          rfl
        refine pure_ (i := 6) (N := some 22) (v := ?_) (a' := ?_) #[false, true, true, true, true, true, true, false] rfl rfl (any_of HT_.out (by kernel_rfl)) (fun _ _ _ h => h) (Or.inl ⟨by rfl, ?_⟩) ?_ ?_
        rotate_left
        · intro w'
          go_simp
          with_reducible rfl
        rotate_left
        · simp only [Act.put, List.setIfInBounds_toArray, List.set_cons_zero, List.set_cons_succ, i64_w, i32_w]
          rfl
        refine take_ (i := 0) (N := some 16) (v := ?_) (a' := ?_) #[true, true, true, true, true, true, true, false] rfl rfl (take_ofW HT_.out HW_.out (by kernel_rfl)) (fun _ _ _ h => h) (Or.inl ⟨by rfl, ?_⟩) hHeld ?_ ?_
        rotate_left
        · intro w' s0
          go_simp
          with_reducible rfl
        rotate_left
        · simp only [Act.put, List.setIfInBounds_toArray, List.set_cons_zero, List.set_cons_succ, i64_w, i32_w]
          rfl
        refine one_ (i := 7) (N := some 23) #[true, true, true, true, true, true, true, true] rfl rfl (one_of HT_.out (by kernel_rfl)) (by decide) (fun K hK => ?_)
        refine goesV_ hen' (#[.pointer (some ⟨g, 0, none⟩), .pointer (some qf), .pointer (some ⟨gx, 0, none⟩), .int .i64 m] ++ cap) (by rfl) rfl rfl rfl (by simp only [List.map_toArray, List.map_cons, List.map_nil]; rfl) ?_
        with_reducible refine HC2.out.mono ?_
        rintro e_ wm ⟨rfl, hb⟩
        refine ⟨_, rfl, ?_⟩
        have HBm := Aside0.mk hb
        clear hb
        refine hK.out _ _ (pw_cell_below HBm.out hb2) (fun hHeld => ?_)
        clear hK K
        refine norm_ (a' := ?_) ?_ ?_
        rotate_left
        · show Act.put _ (some 23) _ = _
          simp only [Act.put, List.setIfInBounds_toArray, List.set_cons_zero, List.set_cons_succ, i64_w, i32_w]
          rfl
        refine done_ (done_of HT_.out (by kernel_rfl)) ?_
        clear hHeld HT_ HW_
        go_end0
        refine ⟨HZ2.out.drew.trans (HBm.out.mono HZ2.out.size), KeepBut.trans HK2.out (KeepBut.of_below (show Below w2.heap.size w2 wm from (below_drew (Below.refl _ _)).trans HBm.out) g none) (.inl rfl), ?_⟩
        unfold takeF
        rw [if_pos H0.out, if_pos h1, ← HV.out]
        exact ⟨rfl, ⟨nx, AskW.below (w := w2.drew) HA2.out HBm.out⟩, XAt.below (w := w2.drew) (HX2.out.below (below_drew (Below.refl _ _))) HBm.out⟩
      · have HC2 : Aside0 (Calls Tryd.prog fn (#[.pointer (some ⟨g, 0, none⟩), .pointer (some qf), .pointer (some ⟨gx, 0, none⟩), .int .i64 m] ++ cap) w2.drew fun e w'' => e = .panicked [{ v := stopV er nx, recovered := false }] ∧ Below w2.drew.heap.size w2.drew w'') := ⟨HC.out.mono fun e w'' h => ⟨by rw [h.1, if_neg h1], h.2⟩⟩
        refine start_ (n := 8) (S := fun w' => w'.cell? ⟨b2, 0, none⟩ = some (.func (Fn.func fn) #[] cap)) (ds := []) #[false, false, false, false, false, false, false, false] (by kernel_rfl) rfl rfl (hb2) (fun hHeld => ?_)
        refine with_tabW TAB_99.tab1 TAB_99.bits1 (fun HT_ HW_ => ?_)
        refine pure_ (i := 1) (N := some 17) (v := ?_) (a' := ?_) #[false, true, false, false, false, false, false, false] rfl rfl (any_of HT_.out (by kernel_rfl)) (fun _ _ _ h => h) (Or.inl ⟨by rfl, ?_⟩) ?_ ?_
        rotate_left
        · intro w'
          go_simp
          with_reducible rfl
        rotate_left
        · simp only [Act.put, List.setIfInBounds_toArray, List.set_cons_zero, List.set_cons_succ, i64_w, i32_w]
          rfl
        refine pure_ (i := 2) (N := some 18) (v := ?_) (a' := ?_) #[false, true, true, false, false, false, false, false] rfl rfl (any_of HT_.out (by kernel_rfl)) (fun _ _ _ h => h) (Or.inl ⟨by rfl, ?_⟩) ?_ ?_
        rotate_left
        · intro w'
          go_simp
          with_reducible rfl
        rotate_left
        · simp only [Act.put, List.setIfInBounds_toArray, List.set_cons_zero, List.set_cons_succ, i64_w, i32_w]
          rfl
        refine pure_ (i := 3) (N := some 19) (v := ?_) (a' := ?_) #[false, true, true, true, false, false, false, false] rfl rfl (any_of HT_.out (by kernel_rfl)) (fun _ _ _ h => h) (Or.inl ⟨by rfl, ?_⟩) ?_ ?_
        rotate_left
        · intro w'
          go_simp
          with_reducible rfl
        rotate_left
        · simp only [Act.put, List.setIfInBounds_toArray, List.set_cons_zero, List.set_cons_succ, i64_w, i32_w]
          rfl
        refine pure_ (i := 4) (N := some 20) (v := ?_) (a' := ?_) #[false, true, true, true, true, false, false, false] rfl rfl (any_of HT_.out (by kernel_rfl)) (fun _ _ _ h => h) (Or.inl ⟨by rfl, ?_⟩) ?_ ?_
        rotate_left
        · intro w'
          go_simp
          with_reducible rfl
        rotate_left
        · simp only [Act.put, List.setIfInBounds_toArray, List.set_cons_zero, List.set_cons_succ, i64_w, i32_w]
          rfl
        refine pure_ (i := 5) (N := some 21) (v := ?_) (a' := ?_) #[false, true, true, true, true, true, false, false] rfl rfl (any_of HT_.out (by kernel_rfl)) (fun _ _ _ h => h) (Or.inl ⟨by rfl, ?_⟩) ?_ ?_
        rotate_left
        · intro w'
          go_simp
          with_reducible rfl
        rotate_left
        · simp only [Act.put, List.setIfInBounds_toArray, List.set_cons_zero, List.set_cons_succ, i64_w, i32_w]
          rfl
        refine pure_ (i := 6) (N := some 22) (v := ?_) (a' := ?_) #[false, true, true, true, true, true, true, false] rfl rfl (any_of HT_.out (by kernel_rfl)) (fun _ _ _ h => h) (Or.inl ⟨by rfl, ?_⟩) ?_ ?_
        rotate_left
        · intro w'
          go_simp
          with_reducible rfl
        rotate_left
        · simp only [Act.put, List.setIfInBounds_toArray, List.set_cons_zero, List.set_cons_succ, i64_w, i32_w]
          rfl
        refine take_ (i := 0) (N := some 16) (v := ?_) (a' := ?_) #[true, true, true, true, true, true, true, false] rfl rfl (take_ofW HT_.out HW_.out (by kernel_rfl)) (fun _ _ _ h => h) (Or.inl ⟨by rfl, ?_⟩) hHeld ?_ ?_
        rotate_left
        · intro w' s0
          go_simp
          with_reducible rfl
        rotate_left
        · simp only [Act.put, List.setIfInBounds_toArray, List.set_cons_zero, List.set_cons_succ, i64_w, i32_w]
          rfl
        refine one_ (i := 7) (N := some 23) #[true, true, true, true, true, true, true, true] rfl rfl (one_of HT_.out (by kernel_rfl)) (by decide) (fun K hK => ?_)
        refine goesVP_ hen' (#[.pointer (some ⟨g, 0, none⟩), .pointer (some qf), .pointer (some ⟨gx, 0, none⟩), .int .i64 m] ++ cap) (by rfl) rfl rfl rfl (by simp only [List.map_toArray, List.map_cons, List.map_nil]; rfl) ?_
        with_reducible refine HC2.out.mono ?_
        rintro e_ wm ⟨rfl, hb⟩
        refine ⟨_, rfl, ?_⟩
        refine ⟨rfl, HZ2.out.drew.trans (hb.mono HZ2.out.size), KeepBut.trans HK2.out (KeepBut.of_below (show Below w2.heap.size w2 wm from (below_drew (Below.refl _ _)).trans hb) g none) (.inl rfl), ?_⟩
        unfold takeF
        rw [if_pos H0.out, if_neg h1]
    · rw [if_neg h0]
      go_wp2_with fail
      refine ⟨rfl, HZ1.out, HKp1.out, ?_⟩
      unfold takeF
      rw [if_neg h0]
  · go_enter Tryd.func99, Tryd.ntmps99
    go_wp2_with (go_at_call 71; refine (HO.out _ _).mono ?_; rintro e w' ⟨rfl, rfl⟩)
    refine HN.out.mono ?_
    rintro e w' ⟨rfl, hA1, hZ1, hK1⟩
    have HZ1 := Aside0.mk hZ1
    have HK1 := Aside0.mk hK1
    have HX1 := Aside0.mk (HX.out.keep hK1 HGi.out HGx.out)
    have HKp1 : Aside0 (KeepBut wI w' g none) := ⟨KeepBut.trans HKp.out hK1 (.inl rfl)⟩
    have B21 := Aside0.mk (hK1.blk HB2.out Hb2g.out (by simp))
    clear hZ1 hK1 HN hc1 HX HK1
    obtain ⟨w1, rfl⟩ : ∃ w1, w1 = w' := ⟨_, rfl⟩
    by_cases h0 : nx + 1 ≤ bs.length
    · have HA1 := Aside0.mk (hA1 h0)
      have H0 := Aside0.mk h0
      rw [if_pos h0, HNo.out]
      have HAsk := Aside0.mk (HAsk.out h0)
      clear hA1 h0
      obtain ⟨v, hv⟩ : ∃ v, v = bs.getD nx 0 := ⟨_, rfl⟩
      have HV := Aside0.mk hv
      rw [← hv] at HAsk ⊢
      clear hv
      obtain ⟨hbx, hfx⟩ : w1.cell? ⟨gx, 3, none⟩ = some (.int .i64 x.f3) ∧ w1.frozen? ⟨gx, 3, none⟩ = false := by obtain ⟨v5, v6, hxb, _⟩ := HX1.out; exact ⟨(blk_cell hxb 3).trans rfl, blk_frozen hxb 3⟩
      have HNg : Aside0 (g ≠ gx) := ⟨by have := HGi.out; have := HGx.out; omega⟩
      go_wp2_with fail
      have HX2 := Aside0.mk (HX1.out.set 3 (by omega) v)
      have HA2 : Aside0 (AskW (w1.setCell ⟨gx, 3, none⟩ (.int .i64 v)) g 80 (rdR Ab bs.length cb ((nx + 1 : Nat) : Int)) G A n c B locs nx) := ⟨(Below.heap_setCell w1 ⟨gx, 3, none⟩ (.int .i64 v) g HNg.out).trans HA1.out⟩
      have HZ2 : Aside0 (Below Wz.heap.size Wz (w1.setCell ⟨gx, 3, none⟩ (.int .i64 v))) := ⟨below_set HZ1.out (by have := HG.out; have := HGi.out; have := HGx.out; omega)⟩
      have HK2 : Aside0 (KeepBut wI (w1.setCell ⟨gx, 3, none⟩ (.int .i64 v)) g none) := ⟨⟨by simpa [World.setCell] using HKp1.out.1, fun j hj hg hr => (Below.heap_setCell w1 ⟨gx, 3, none⟩ (.int .i64 v) j (fun e => by have := HGx.out; have e2 : j = gx := e; omega)).trans (HKp1.out.2 j hj hg hr)⟩⟩
      have B22 : Aside0 ((w1.setCell ⟨gx, 3, none⟩ (.int .i64 v)).heap[b2]? = some (.cells #[.func (Fn.func fn) #[] cap] 65 (0, 0))) := ⟨(Below.heap_setCell w1 ⟨gx, 3, none⟩ (.int .i64 v) b2 Hb2x.out).trans B21.out⟩
      obtain ⟨w2, hw2⟩ : ∃ w2, w2 = w1.setCell ⟨gx, 3, none⟩ (.int .i64 v) := ⟨_, rfl⟩
      rw [← hw2] at HX2 HA2 HZ2 HK2 B22 ⊢
      clear hw2 HX1 HA1 HZ1 HKp1 B21 hbx hfx
      have hb2 : w2.cell? ⟨b2, 0, none⟩ = some (.func (Fn.func fn) #[] cap) := (blk_cell B22.out 0).trans rfl
      have HC := Aside0.mk (HAsk.out w2.drew HA2.out (HX2.out.below (below_drew (Below.refl _ _))) HK2.out)
      by_cases h1 : er = 0
      · have HC2 : Aside0 (Calls Tryd.prog fn (#[.pointer (some ⟨g, 0, none⟩), .pointer (some qf), .pointer (some ⟨gx, 0, none⟩), .int .i64 m] ++ cap) w2.drew fun e w'' => e = .returned (.tuple #[]) ∧ Below w2.drew.heap.size w2.drew w'') := ⟨HC.out.mono fun e w'' h => ⟨by rw [h.1, if_pos h1], h.2⟩⟩
        refine start_ (n := 8) (S := fun w' => w'.cell? ⟨b2, 0, none⟩ = some (.func (Fn.func fn) #[] cap)) (ds := []) #[false, false, false, false, false, false, false, false] (by kernel_rfl) rfl rfl (hb2) (fun hHeld => ?_)
        refine with_tabW TAB_99.tab1 TAB_99.bits1 (fun HT_ HW_ => ?_)
        refine pure_ (i := 1) (N := some 17) (v := ?_) (a' := ?_) #[false, true, false, false, false, false, false, false] rfl rfl (any_of HT_.out (by kernel_rfl)) (fun _ _ _ h => h) (Or.inl ⟨by rfl, ?_⟩) ?_ ?_
        rotate_left
        · intro w'
          go_simp
          with_reducible rfl
        rotate_left
        · simp only [Act.put, List.setIfInBounds_toArray, List.set_cons_zero, List.set_cons_succ, i64_w, i32_w]
          rfl
        refine pure_ (i := 2) (N := some 18) (v := ?_) (a' := ?_) #[false, true, true, false, false, false, false, false] rfl rfl (any_of HT_.out (by kernel_rfl)) (fun _ _ _ h => h) (Or.inl ⟨by rfl, ?_⟩) ?_ ?_
        rotate_left
        · intro w'
          go_simp
          with_reducible rfl
        rotate_left
        · simp only [Act.put, List.setIfInBounds_toArray, List.set_cons_zero, List.set_cons_succ, i64_w, i32_w]
          rfl
        refine pure_ (i := 3) (N := some 19) (v := ?_) (a' := ?_) #[false, true, true, true, false, false, false, false] rfl rfl (any_of HT_.out (by kernel_rfl)) (fun _ _ _ h => h) (Or.inl ⟨by rfl, ?_⟩) ?_ ?_
        rotate_left
        · intro w'
          go_simp
          with_reducible rfl
        rotate_left
        · simp only [Act.put, List.setIfInBounds_toArray, List.set_cons_zero, List.set_cons_succ, i64_w, i32_w]
          rfl
        refine pure_ (i := 4) (N := some 20) (v := ?_) (a' := ?_) #[false, true, true, true, true, false, false, false] rfl rfl (any_of HT_.out (by kernel_rfl)) (fun _ _ _ h => h) (Or.inl ⟨by rfl, ?_⟩) ?_ ?_
        rotate_left
        · intro w'
          go_simp
          with_reducible rfl
        rotate_left
        · simp only [Act.put, List.setIfInBounds_toArray, List.set_cons_zero, List.set_cons_succ, i64_w, i32_w]
          rfl
        refine pure_ (i := 5) (N := some 21) (v := ?_) (a' := ?_) #[false, true, true, true, true, true, false, false] rfl rfl (any_of HT_.out (by kernel_rfl)) (fun _ _ _ h => h) (Or.inl ⟨by rfl, ?_⟩) ?_ ?_
        rotate_left
        · intro w'
          go_simp
          with_reducible rfl
        rotate_left
        · simp only [Act.put, List.setIfInBounds_toArray, List.set_cons_zero, List.set_cons_succ, i64_w, i32_w]
          rfl
        refine pure_ (i := 6) (N := some 22) (v := ?_) (a' := ?_) #[false, true, true, true, true, true, true, false] rfl rfl (any_of HT_.out (by kernel_rfl)) (fun _ _ _ h => h) (Or.inl ⟨by rfl, ?_⟩) ?_ ?_
        rotate_left
        · intro w'
          go_simp
          with_reducible rfl
        rotate_left
        · simp only [Act.put, List.setIfInBounds_toArray, List.set_cons_zero, List.set_cons_succ, i64_w, i32_w]
          rfl
        refine take_ (i := 0) (N := some 16) (v := ?_) (a' := ?_) #[true, true, true, true, true, true, true, false] rfl rfl (take_ofW HT_.out HW_.out (by kernel_rfl)) (fun _ _ _ h => h) (Or.inl ⟨by rfl, ?_⟩) hHeld ?_ ?_
        rotate_left
        · intro w' s0
          go_simp
          with_reducible rfl
        rotate_left
        · simp only [Act.put, List.setIfInBounds_toArray, List.set_cons_zero, List.set_cons_succ, i64_w, i32_w]
          rfl
        refine one_ (i := 7) (N := some 23) #[true, true, true, true, true, true, true, true] rfl rfl (one_of HT_.out (by kernel_rfl)) (by decide) (fun K hK => ?_)
        refine goesV_ hen' (#[.pointer (some ⟨g, 0, none⟩), .pointer (some qf), .pointer (some ⟨gx, 0, none⟩), .int .i64 m] ++ cap) (by rfl) rfl rfl rfl (by simp only [List.map_toArray, List.map_cons, List.map_nil]; rfl) ?_
        with_reducible refine HC2.out.mono ?_
        rintro e_ wm ⟨rfl, hb⟩
        refine ⟨_, rfl, ?_⟩
        have HBm := Aside0.mk hb
        clear hb
        refine hK.out _ _ (pw_cell_below HBm.out hb2) (fun hHeld => ?_)
        clear hK K
        refine norm_ (a' := ?_) ?_ ?_
        rotate_left
        · show Act.put _ (some 23) _ = _
          simp only [Act.put, List.setIfInBounds_toArray, List.set_cons_zero, List.set_cons_succ, i64_w, i32_w]
          rfl
        refine done_ (done_of HT_.out (by kernel_rfl)) ?_
        clear hHeld HT_ HW_
        go_end0
        refine ⟨HZ2.out.drew.trans (HBm.out.mono HZ2.out.size), KeepBut.trans HK2.out (KeepBut.of_below (show Below w2.heap.size w2 wm from (below_drew (Below.refl _ _)).trans HBm.out) g none) (.inl rfl), ?_⟩
        unfold takeF
        rw [if_pos H0.out, if_pos h1, ← HV.out]
        exact ⟨rfl, ⟨nx, AskW.below (w := w2.drew) HA2.out HBm.out⟩, XAt.below (w := w2.drew) (HX2.out.below (below_drew (Below.refl _ _))) HBm.out⟩
      · have HC2 : Aside0 (Calls Tryd.prog fn (#[.pointer (some ⟨g, 0, none⟩), .pointer (some qf), .pointer (some ⟨gx, 0, none⟩), .int .i64 m] ++ cap) w2.drew fun e w'' => e = .panicked [{ v := stopV er nx, recovered := false }] ∧ Below w2.drew.heap.size w2.drew w'') := ⟨HC.out.mono fun e w'' h => ⟨by rw [h.1, if_neg h1], h.2⟩⟩
        refine start_ (n := 8) (S := fun w' => w'.cell? ⟨b2, 0, none⟩ = some (.func (Fn.func fn) #[] cap)) (ds := []) #[false, false, false, false, false, false, false, false] (by kernel_rfl) rfl rfl (hb2) (fun hHeld => ?_)
        refine with_tabW TAB_99.tab1 TAB_99.bits1 (fun HT_ HW_ => ?_)
        refine pure_ (i := 1) (N := some 17) (v := ?_) (a' := ?_) #[false, true, false, false, false, false, false, false] rfl rfl (any_of HT_.out (by kernel_rfl)) (fun _ _ _ h => h) (Or.inl ⟨by rfl, ?_⟩) ?_ ?_
        rotate_left
        · intro w'
          go_simp
          with_reducible rfl
        rotate_left
        · simp only [Act.put, List.setIfInBounds_toArray, List.set_cons_zero, List.set_cons_succ, i64_w, i32_w]
          rfl
        refine pure_ (i := 2) (N := some 18) (v := ?_) (a' := ?_) #[false, true, true, false, false, false, false, false] rfl rfl (any_of HT_.out (by kernel_rfl)) (fun _ _ _ h => h) (Or.inl ⟨by rfl, ?_⟩) ?_ ?_
        rotate_left
        · intro w'
          go_simp
          with_reducible rfl
        rotate_left
        · simp only [Act.put, List.setIfInBounds_toArray, List.set_cons_zero, List.set_cons_succ, i64_w, i32_w]
          rfl
        refine pure_ (i := 3) (N := some 19) (v := ?_) (a' := ?_) #[false, true, true, true, false, false, false, false] rfl rfl (any_of HT_.out (by kernel_rfl)) (fun _ _ _ h => h) (Or.inl ⟨by rfl, ?_⟩) ?_ ?_
        rotate_left
        · intro w'
          go_simp
          with_reducible rfl
        rotate_left
        · simp only [Act.put, List.setIfInBounds_toArray, List.set_cons_zero, List.set_cons_succ, i64_w, i32_w]
          rfl
        refine pure_ (i := 4) (N := some 20) (v := ?_) (a' := ?_) #[false, true, true, true, true, false, false, false] rfl rfl (any_of HT_.out (by kernel_rfl)) (fun _ _ _ h => h) (Or.inl ⟨by rfl, ?_⟩) ?_ ?_
        rotate_left
        · intro w'
          go_simp
          with_reducible rfl
        rotate_left
        · simp only [Act.put, List.setIfInBounds_toArray, List.set_cons_zero, List.set_cons_succ, i64_w, i32_w]
          rfl
        refine pure_ (i := 5) (N := some 21) (v := ?_) (a' := ?_) #[false, true, true, true, true, true, false, false] rfl rfl (any_of HT_.out (by kernel_rfl)) (fun _ _ _ h => h) (Or.inl ⟨by rfl, ?_⟩) ?_ ?_
        rotate_left
        · intro w'
          go_simp
          with_reducible rfl
        rotate_left
        · simp only [Act.put, List.setIfInBounds_toArray, List.set_cons_zero, List.set_cons_succ, i64_w, i32_w]
          rfl
        refine pure_ (i := 6) (N := some 22) (v := ?_) (a' := ?_) #[false, true, true, true, true, true, true, false] rfl rfl (any_of HT_.out (by kernel_rfl)) (fun _ _ _ h => h) (Or.inl ⟨by rfl, ?_⟩) ?_ ?_
        rotate_left
        · intro w'
          go_simp
          with_reducible rfl
        rotate_left
        · simp only [Act.put, List.setIfInBounds_toArray, List.set_cons_zero, List.set_cons_succ, i64_w, i32_w]
          rfl
        refine take_ (i := 0) (N := some 16) (v := ?_) (a' := ?_) #[true, true, true, true, true, true, true, false] rfl rfl (take_ofW HT_.out HW_.out (by kernel_rfl)) (fun _ _ _ h => h) (Or.inl ⟨by rfl, ?_⟩) hHeld ?_ ?_
        rotate_left
        · intro w' s0
          go_simp
          with_reducible rfl
        rotate_left
        · simp only [Act.put, List.setIfInBounds_toArray, List.set_cons_zero, List.set_cons_succ, i64_w, i32_w]
          rfl
        refine one_ (i := 7) (N := some 23) #[true, true, true, true, true, true, true, true] rfl rfl (one_of HT_.out (by kernel_rfl)) (by decide) (fun K hK => ?_)
        refine goesVP_ hen' (#[.pointer (some ⟨g, 0, none⟩), .pointer (some qf), .pointer (some ⟨gx, 0, none⟩), .int .i64 m] ++ cap) (by rfl) rfl rfl rfl (by simp only [List.map_toArray, List.map_cons, List.map_nil]; rfl) ?_
        with_reducible refine HC2.out.mono ?_
        rintro e_ wm ⟨rfl, hb⟩
        refine ⟨_, rfl, ?_⟩
        refine ⟨rfl, HZ2.out.drew.trans (hb.mono HZ2.out.size), KeepBut.trans HK2.out (KeepBut.of_below (show Below w2.heap.size w2 wm from (below_drew (Below.refl _ _)).trans hb) g none) (.inl rfl), ?_⟩
        unfold takeF
        rw [if_pos H0.out, if_neg h1]
    · rw [if_neg h0]
      go_wp2_with fail
      refine ⟨rfl, HZ1.out, HKp1.out, ?_⟩
      unfold takeF
      rw [if_neg h0]
theorem num_k {op j : Nat} {pk : PK} (h : (partsOf op)[j]? = some pk) (hn : numK pk = true) : 1 ≤ tabL.getD op 0 := by
  have h15 := num_op h hn
  unfold partsOf at h
  rcases op with _ | _ | _ | _ | _ | _ | _ | _ | _ | _ | _ | _ | _ | _ | _ | op <;> first | omega | decide | (rcases j with _ | _ | _ | j <;> simp at h <;> subst h <;> cases hn)
set_option maxRecDepth 100000 in
set_option maxHeartbeats 8000000 in
theorem take_num (op k : Nat) (hop : op < 15) (hk : (k : Int) = tabL.getD op 0) (hk1 : 1 ≤ k)
    (g gx b2 fn : Nat) (cap : Array Value) (hen : Enters fn) (qf : Addr) (m er : Int) (G : Int) (A : Option Addr) (n c B : Nat) (locs at_ : Int) (Ab : Option Addr) (cb : Nat) (bs : List Int) (nx : Nat) (x : S50) (Wz wI w : World)
    (hz : Below Wz.heap.size Wz w) (hg : Wz.heap.size ≤ g) (hgI : g < wI.heap.size) (hgx : wI.heap.size ≤ gx) (hkp : KeepBut wI w g none) (hA : AskW w g 80 (rdR Ab bs.length cb nx) G A n c B locs at_) (hB : kB.C Wz Ab bs.length bs) (hnx : nx ≤ bs.length) (hby : ∀ x ∈ bs, 0 ≤ x ∧ x ≤ 255) (hX : XAt wI w gx x) (hT : Tab Wz) (hx0 : x.f0 = (op : Int))
    (hb2 : w.heap[b2]? = some (.cells #[.func (Fn.func fn) #[] cap] 65 (0, 0)))
    (hask : nx + k ≤ bs.length → ∀ w' : World, AskW w' g 80 (rdR Ab bs.length cb ((nx + k : Nat) : Int)) G A n c B locs nx → XAt wI w' gx (setF x 4 (wrap64 (upN bs nx k k))) → KeepBut wI w' g none → Calls Tryd.prog fn (#[.pointer (some ⟨g, 0, none⟩), .pointer (some qf), .pointer (some ⟨gx, 0, none⟩), .int .i64 m] ++ cap) w' fun e w'' => AskPost w' er nx e w'') :
    Calls Tryd.prog 101 #[.pointer (some ⟨g, 0, none⟩), .pointer (some qf), .pointer (some ⟨gx, 0, none⟩), .int .i64 m, .pointer (some ⟨b2, 0, none⟩)] w fun e w' => TakePost Wz wI g gx Ab cb bs G A n c B locs (takeF bs nx k (setF x 4 (wrap64 (upN bs nx k k))) er) e w' := by
  have hk8 := tab_range op
  have HN := Aside0.mk (number_rd g k ⟨hk1, by omega⟩ G A n c B locs at_ Ab cb bs nx Wz w hz hg hA hB hnx hby)
  have HZ := Aside0.mk hz
  have HG := Aside0.mk hg
  have HGi := Aside0.mk hgI
  have HGx := Aside0.mk hgx
  have HKp := Aside0.mk hkp
  have HX := Aside0.mk hX
  have HAsk := Aside0.mk hask
  have hen' : ∀ (args : Array Value) (w : World), (callFunc fn args).run Tryd.prog w = .ok (.enter fn args) w := hen
  have o0 : (0 : Int) ≤ (op : Int) := by omega
  have o1 : (op : Int) < 15 := by omega
  have hc1 : w.cell? ⟨gx, 0, none⟩ = some (.int .i64 (op : Int)) := by obtain ⟨_, _, hx, _⟩ := hX; rw [← hx0]; exact (blk_cell hx 0).trans rfl
  have ht : w.cell? ⟨0, op, none⟩ = some (.int .i64 (k : Int)) := by rw [hk]; exact pw_cell_below hz (hT op hop)
  have HB2 := Aside0.mk hb2
  have Hb2g : Aside0 (b2 ≠ g) := ⟨blk_ne_ty hb2 hA (by decide)⟩
  have Hb2x : Aside0 (b2 ≠ gx) := ⟨by obtain ⟨_, _, hx, _⟩ := hX; exact blk_ne_ty hb2 hx (by decide)⟩
  clear hz hg hgI hgx hkp hA hB hX hask hb2 hen hnx hby hx0 hk hk8 hT
  · go_enter Tryd.func101, Tryd.ntmps101
    go_wp2_with fail
    refine HN.out.mono ?_
    rintro e w' ⟨rfl, hA1, hZ1, hK1⟩
    have HZ1 := Aside0.mk hZ1
    have HK1 := Aside0.mk hK1
    have HX1 := Aside0.mk (HX.out.keep hK1 HGi.out HGx.out)
    have HKp1 : Aside0 (KeepBut wI w' g none) := ⟨KeepBut.trans HKp.out hK1 (.inl rfl)⟩
    have B21 := Aside0.mk (hK1.blk HB2.out Hb2g.out (by simp))
    clear hZ1 hK1 HN hc1 ht HX HK1
    obtain ⟨w1, rfl⟩ : ∃ w1, w1 = w' := ⟨_, rfl⟩
    by_cases h0 : nx + k ≤ bs.length
    · have HA1 := Aside0.mk (hA1 h0)
      have H0 := Aside0.mk h0
      rw [if_pos h0]
      have HAsk := Aside0.mk (HAsk.out h0)
      clear hA1 h0
      obtain ⟨v, hv⟩ : ∃ v, v = wrap64 (upN bs nx k k) := ⟨_, rfl⟩
      have HV := Aside0.mk hv
      rw [← hv] at HAsk ⊢
      clear hv
      obtain ⟨hbx, hfx⟩ : w1.cell? ⟨gx, 4, none⟩ = some (.int .i64 x.f4) ∧ w1.frozen? ⟨gx, 4, none⟩ = false := by obtain ⟨v5, v6, hxb, _⟩ := HX1.out; exact ⟨(blk_cell hxb 4).trans rfl, blk_frozen hxb 4⟩
      have HNg : Aside0 (g ≠ gx) := ⟨by have := HGi.out; have := HGx.out; omega⟩
      go_wp2_with fail
      have HX2 := Aside0.mk (HX1.out.set 4 (by omega) v)
      have HA2 : Aside0 (AskW (w1.setCell ⟨gx, 4, none⟩ (.int .i64 v)) g 80 (rdR Ab bs.length cb ((nx + k : Nat) : Int)) G A n c B locs nx) := ⟨(Below.heap_setCell w1 ⟨gx, 4, none⟩ (.int .i64 v) g HNg.out).trans HA1.out⟩
      have HZ2 : Aside0 (Below Wz.heap.size Wz (w1.setCell ⟨gx, 4, none⟩ (.int .i64 v))) := ⟨below_set HZ1.out (by have := HG.out; have := HGi.out; have := HGx.out; omega)⟩
      have HK2 : Aside0 (KeepBut wI (w1.setCell ⟨gx, 4, none⟩ (.int .i64 v)) g none) := ⟨⟨by simpa [World.setCell] using HKp1.out.1, fun j hj hg hr => (Below.heap_setCell w1 ⟨gx, 4, none⟩ (.int .i64 v) j (fun e => by have := HGx.out; have e2 : j = gx := e; omega)).trans (HKp1.out.2 j hj hg hr)⟩⟩
      have B22 : Aside0 ((w1.setCell ⟨gx, 4, none⟩ (.int .i64 v)).heap[b2]? = some (.cells #[.func (Fn.func fn) #[] cap] 65 (0, 0))) := ⟨(Below.heap_setCell w1 ⟨gx, 4, none⟩ (.int .i64 v) b2 Hb2x.out).trans B21.out⟩
      obtain ⟨w2, hw2⟩ : ∃ w2, w2 = w1.setCell ⟨gx, 4, none⟩ (.int .i64 v) := ⟨_, rfl⟩
      rw [← hw2] at HX2 HA2 HZ2 HK2 B22 ⊢
      clear hw2 HX1 HA1 HZ1 HKp1 B21 hbx hfx
      have hb2 : w2.cell? ⟨b2, 0, none⟩ = some (.func (Fn.func fn) #[] cap) := (blk_cell B22.out 0).trans rfl
      have HC := Aside0.mk (HAsk.out w2.drew HA2.out (HX2.out.below (below_drew (Below.refl _ _))) HK2.out)
      by_cases h1 : er = 0
      · have HC2 : Aside0 (Calls Tryd.prog fn (#[.pointer (some ⟨g, 0, none⟩), .pointer (some qf), .pointer (some ⟨gx, 0, none⟩), .int .i64 m] ++ cap) w2.drew fun e w'' => e = .returned (.tuple #[]) ∧ Below w2.drew.heap.size w2.drew w'') := ⟨HC.out.mono fun e w'' h => ⟨by rw [h.1, if_pos h1], h.2⟩⟩
        refine start_ (n := 8) (S := fun w' => w'.cell? ⟨b2, 0, none⟩ = some (.func (Fn.func fn) #[] cap)) (ds := []) #[false, false, false, false, false, false, false, false] (by kernel_rfl) rfl rfl (hb2) (fun hHeld => ?_)
        refine with_tabW TAB_101.tab1 TAB_101.bits1 (fun HT_ HW_ => ?_)
        refine pure_ (i := 1) (N := some 21) (v := ?_) (a' := ?_) #[false, true, false, false, false, false, false, false] rfl rfl (any_of HT_.out (by kernel_rfl)) (fun _ _ _ h => h) (Or.inl ⟨by rfl, ?_⟩) ?_ ?_
        rotate_left
        · intro w'
          go_simp
          with_reducible rfl
        rotate_left
        · simp only [Act.put, List.setIfInBounds_toArray, List.set_cons_zero, List.set_cons_succ, i64_w, i32_w]
          rfl
        refine pure_ (i := 2) (N := some 22) (v := ?_) (a' := ?_) #[false, true, true, false, false, false, false, false] rfl rfl (any_of HT_.out (by kernel_rfl)) (fun _ _ _ h => h) (Or.inl ⟨by rfl, ?_⟩) ?_ ?_
        rotate_left
        · intro w'
          go_simp
          with_reducible rfl
        rotate_left
        · simp only [Act.put, List.setIfInBounds_toArray, List.set_cons_zero, List.set_cons_succ, i64_w, i32_w]
          rfl
        refine pure_ (i := 3) (N := some 23) (v := ?_) (a' := ?_) #[false, true, true, true, false, false, false, false] rfl rfl (any_of HT_.out (by kernel_rfl)) (fun _ _ _ h => h) (Or.inl ⟨by rfl, ?_⟩) ?_ ?_
        rotate_left
        · intro w'
          go_simp
          with_reducible rfl
        rotate_left
        · simp only [Act.put, List.setIfInBounds_toArray, List.set_cons_zero, List.set_cons_succ, i64_w, i32_w]
          rfl
        refine pure_ (i := 4) (N := some 24) (v := ?_) (a' := ?_) #[false, true, true, true, true, false, false, false] rfl rfl (any_of HT_.out (by kernel_rfl)) (fun _ _ _ h => h) (Or.inl ⟨by rfl, ?_⟩) ?_ ?_
        rotate_left
        · intro w'
          go_simp
          with_reducible rfl
        rotate_left
        · simp only [Act.put, List.setIfInBounds_toArray, List.set_cons_zero, List.set_cons_succ, i64_w, i32_w]
          rfl
        refine pure_ (i := 5) (N := some 25) (v := ?_) (a' := ?_) #[false, true, true, true, true, true, false, false] rfl rfl (any_of HT_.out (by kernel_rfl)) (fun _ _ _ h => h) (Or.inl ⟨by rfl, ?_⟩) ?_ ?_
        rotate_left
        · intro w'
          go_simp
          with_reducible rfl
        rotate_left
        · simp only [Act.put, List.setIfInBounds_toArray, List.set_cons_zero, List.set_cons_succ, i64_w, i32_w]
          rfl
        refine pure_ (i := 6) (N := some 26) (v := ?_) (a' := ?_) #[false, true, true, true, true, true, true, false] rfl rfl (any_of HT_.out (by kernel_rfl)) (fun _ _ _ h => h) (Or.inl ⟨by rfl, ?_⟩) ?_ ?_
        rotate_left
        · intro w'
          go_simp
          with_reducible rfl
        rotate_left
        · simp only [Act.put, List.setIfInBounds_toArray, List.set_cons_zero, List.set_cons_succ, i64_w, i32_w]
          rfl
        refine take_ (i := 0) (N := some 20) (v := ?_) (a' := ?_) #[true, true, true, true, true, true, true, false] rfl rfl (take_ofW HT_.out HW_.out (by kernel_rfl)) (fun _ _ _ h => h) (Or.inl ⟨by rfl, ?_⟩) hHeld ?_ ?_
        rotate_left
        · intro w' s0
          go_simp
          with_reducible rfl
        rotate_left
        · simp only [Act.put, List.setIfInBounds_toArray, List.set_cons_zero, List.set_cons_succ, i64_w, i32_w]
          rfl
        refine one_ (i := 7) (N := some 27) #[true, true, true, true, true, true, true, true] rfl rfl (one_of HT_.out (by kernel_rfl)) (by decide) (fun K hK => ?_)
        refine goesV_ hen' (#[.pointer (some ⟨g, 0, none⟩), .pointer (some qf), .pointer (some ⟨gx, 0, none⟩), .int .i64 m] ++ cap) (by rfl) rfl rfl rfl (by simp only [List.map_toArray, List.map_cons, List.map_nil]; rfl) ?_
        with_reducible refine HC2.out.mono ?_
        rintro e_ wm ⟨rfl, hb⟩
        refine ⟨_, rfl, ?_⟩
        have HBm := Aside0.mk hb
        clear hb
        refine hK.out _ _ (pw_cell_below HBm.out hb2) (fun hHeld => ?_)
        clear hK K
        refine norm_ (a' := ?_) ?_ ?_
        rotate_left
        · show Act.put _ (some 27) _ = _
          simp only [Act.put, List.setIfInBounds_toArray, List.set_cons_zero, List.set_cons_succ, i64_w, i32_w]
          rfl
        refine done_ (done_of HT_.out (by kernel_rfl)) ?_
        clear hHeld HT_ HW_
        go_end0
        refine ⟨HZ2.out.drew.trans (HBm.out.mono HZ2.out.size), KeepBut.trans HK2.out (KeepBut.of_below (show Below w2.heap.size w2 wm from (below_drew (Below.refl _ _)).trans HBm.out) g none) (.inl rfl), ?_⟩
        unfold takeF
        rw [if_pos H0.out, if_pos h1, ← HV.out]
        exact ⟨rfl, ⟨nx, AskW.below (w := w2.drew) HA2.out HBm.out⟩, XAt.below (w := w2.drew) (HX2.out.below (below_drew (Below.refl _ _))) HBm.out⟩
      · have HC2 : Aside0 (Calls Tryd.prog fn (#[.pointer (some ⟨g, 0, none⟩), .pointer (some qf), .pointer (some ⟨gx, 0, none⟩), .int .i64 m] ++ cap) w2.drew fun e w'' => e = .panicked [{ v := stopV er nx, recovered := false }] ∧ Below w2.drew.heap.size w2.drew w'') := ⟨HC.out.mono fun e w'' h => ⟨by rw [h.1, if_neg h1], h.2⟩⟩
        refine start_ (n := 8) (S := fun w' => w'.cell? ⟨b2, 0, none⟩ = some (.func (Fn.func fn) #[] cap)) (ds := []) #[false, false, false, false, false, false, false, false] (by kernel_rfl) rfl rfl (hb2) (fun hHeld => ?_)
        refine with_tabW TAB_101.tab1 TAB_101.bits1 (fun HT_ HW_ => ?_)
        refine pure_ (i := 1) (N := some 21) (v := ?_) (a' := ?_) #[false, true, false, false, false, false, false, false] rfl rfl (any_of HT_.out (by kernel_rfl)) (fun _ _ _ h => h) (Or.inl ⟨by rfl, ?_⟩) ?_ ?_
        rotate_left
        · intro w'
          go_simp
          with_reducible rfl
        rotate_left
        · simp only [Act.put, List.setIfInBounds_toArray, List.set_cons_zero, List.set_cons_succ, i64_w, i32_w]
          rfl
        refine pure_ (i := 2) (N := some 22) (v := ?_) (a' := ?_) #[false, true, true, false, false, false, false, false] rfl rfl (any_of HT_.out (by kernel_rfl)) (fun _ _ _ h => h) (Or.inl ⟨by rfl, ?_⟩) ?_ ?_
        rotate_left
        · intro w'
          go_simp
          with_reducible rfl
        rotate_left
        · simp only [Act.put, List.setIfInBounds_toArray, List.set_cons_zero, List.set_cons_succ, i64_w, i32_w]
          rfl
        refine pure_ (i := 3) (N := some 23) (v := ?_) (a' := ?_) #[false, true, true, true, false, false, false, false] rfl rfl (any_of HT_.out (by kernel_rfl)) (fun _ _ _ h => h) (Or.inl ⟨by rfl, ?_⟩) ?_ ?_
        rotate_left
        · intro w'
          go_simp
          with_reducible rfl
        rotate_left
        · simp only [Act.put, List.setIfInBounds_toArray, List.set_cons_zero, List.set_cons_succ, i64_w, i32_w]
          rfl
        refine pure_ (i := 4) (N := some 24) (v := ?_) (a' := ?_) #[false, true, true, true, true, false, false, false] rfl rfl (any_of HT_.out (by kernel_rfl)) (fun _ _ _ h => h) (Or.inl ⟨by rfl, ?_⟩) ?_ ?_
        rotate_left
        · intro w'
          go_simp
          with_reducible rfl
        rotate_left
        · simp only [Act.put, List.setIfInBounds_toArray, List.set_cons_zero, List.set_cons_succ, i64_w, i32_w]
          rfl
        refine pure_ (i := 5) (N := some 25) (v := ?_) (a' := ?_) #[false, true, true, true, true, true, false, false] rfl rfl (any_of HT_.out (by kernel_rfl)) (fun _ _ _ h => h) (Or.inl ⟨by rfl, ?_⟩) ?_ ?_
        rotate_left
        · intro w'
          go_simp
          with_reducible rfl
        rotate_left
        · simp only [Act.put, List.setIfInBounds_toArray, List.set_cons_zero, List.set_cons_succ, i64_w, i32_w]
          rfl
        refine pure_ (i := 6) (N := some 26) (v := ?_) (a' := ?_) #[false, true, true, true, true, true, true, false] rfl rfl (any_of HT_.out (by kernel_rfl)) (fun _ _ _ h => h) (Or.inl ⟨by rfl, ?_⟩) ?_ ?_
        rotate_left
        · intro w'
          go_simp
          with_reducible rfl
        rotate_left
        · simp only [Act.put, List.setIfInBounds_toArray, List.set_cons_zero, List.set_cons_succ, i64_w, i32_w]
          rfl
        refine take_ (i := 0) (N := some 20) (v := ?_) (a' := ?_) #[true, true, true, true, true, true, true, false] rfl rfl (take_ofW HT_.out HW_.out (by kernel_rfl)) (fun _ _ _ h => h) (Or.inl ⟨by rfl, ?_⟩) hHeld ?_ ?_
        rotate_left
        · intro w' s0
          go_simp
          with_reducible rfl
        rotate_left
        · simp only [Act.put, List.setIfInBounds_toArray, List.set_cons_zero, List.set_cons_succ, i64_w, i32_w]
          rfl
        refine one_ (i := 7) (N := some 27) #[true, true, true, true, true, true, true, true] rfl rfl (one_of HT_.out (by kernel_rfl)) (by decide) (fun K hK => ?_)
        refine goesVP_ hen' (#[.pointer (some ⟨g, 0, none⟩), .pointer (some qf), .pointer (some ⟨gx, 0, none⟩), .int .i64 m] ++ cap) (by rfl) rfl rfl rfl (by simp only [List.map_toArray, List.map_cons, List.map_nil]; rfl) ?_
        with_reducible refine HC2.out.mono ?_
        rintro e_ wm ⟨rfl, hb⟩
        refine ⟨_, rfl, ?_⟩
        refine ⟨rfl, HZ2.out.drew.trans (hb.mono HZ2.out.size), KeepBut.trans HK2.out (KeepBut.of_below (show Below w2.heap.size w2 wm from (below_drew (Below.refl _ _)).trans hb) g none) (.inl rfl), ?_⟩
        unfold takeF
        rw [if_pos H0.out, if_neg h1]
    · rw [if_neg h0]
      go_wp2_with fail
      refine ⟨rfl, HZ1.out, HKp1.out, ?_⟩
      unfold takeF
      rw [if_neg h0]
end Go.Proofs.YteonppgdmhakoaaDoor.PC
