/- What a proof of this seat needs, laid together by a program of the session's. No conditions. -/
import Derived.Test.YteonppgdmhakoaaDoorCH5
import Derived.Test.YteonppgdmhakoaaDoorCH2
import Derived.Test.YteonppgdmhakoaaDoorCH4
import Derived.Test.YteonppgdmhakoaaDoorRows
import Derived.WalkKit
import Derived.ProofKit
import Derived.OpenShut
import Derived.ShutString
import Derived.ChangeOld
import Derived.Below
import Derived.SizedLaws
import Derived.Carry
namespace Go.Proofs.YteonppgdmhakoaaDoor.PC
open Go.RowKit Go.Proofs.YteonppgdmhakoaaDoorW.PrintWords Go.Proofs.YteonppgdmhakoaaDoorW.PrintLast Go.Proofs.YteonppgdmhakoaaDoorW.PrintMore
set_option linter.unusedVariables false
set_option linter.unusedSimpArgs false
theorem cut_cap {P : Program} (t e : TypeId) (kh : IntKind) {i : TypeInfo} (ht : P.underlying t = some (.slice e)) (hi : P.info? e = some i) (A : Option Addr) (n c : Nat) (j : Int) (h0 : 0 ≤ j) (hm : j ≤ c) :
  ∀ W : World, (Instr.slice t (.slice A n c) none (some (.int kh j)) none).run P W = .ok (.slice A j.toNat c) W := by
 intro W
 have hel : P.elem t = e := by simp [Program.elem, ht]
 have hu : P.underlying t = some (.slice (P.elem t)) := by rw [hel]; exact ht
 have ha : (A.map fun x => x.add 0) = A := by cases A <;> simp [Addr.add]
 rw [run_slice_h W t A n c hu kh j h0 hm, hel]
 simp [sizeOf, typeInfo, hi, sliced, Result.andThen, ha]
theorem size50 : (Tryd.prog.info? 50).map (·.size) = some 7 := by kernel_rfl
theorem size48 : (Tryd.prog.info? 48).map (·.size) = some 1 := by kernel_rfl
theorem size46 : (Tryd.prog.info? 46).map (·.size) = some 4 := by kernel_rfl
def zero50 : List Value := [.int .i64 0, .int .i64 0, .int .i64 0, .int .i64 0, .int .i64 0, .slice none 0 0, .slice none 0 0]
theorem wideints_any (A0 : Option Addr) (c0 n : Nat) (l0 : List Int) (w : World) (hn : n = l0.length) (hr : Kd.C (Kd.int .i64) w A0 l0.length l0) (hc : l0.length ≤ c0) (hl : l0.length ≤ 17592186044416) :
  Calls Tryd.prog 91 #[.slice A0 n c0] w fun e w' => ∃ A c, e = .returned (.slice A n c) ∧ wI.M w' w.heap.size (fun k => w.heap.size ≤ k) l0 [.slice A n c] ∧ Below w.heap.size w w' := by
 subst hn
 obtain ⟨K, hK⟩ := wideI_ev l0 hl
 refine (fugueref00_WideFullI.calls K A0 c0 l0 _ w hr hc (hK K (Nat.le_refl K))).mono ?_
 rintro e w' ⟨A, c, he, hR, hle, hb⟩
 exact ⟨A, c, he, wI_of hR _ (Nat.le_refl _), hb⟩
theorem k50w_mk {w : World} {base : Nat} {ok : Nat → Prop} {x : S50} {v5 v6 : Value} (g5 : wI.M w base ok x.f5 [v5]) (g6 : wI.M w base ok x.f6 [v6]) : k50w.M w base ok x [.int .i64 x.f0, .int .i64 x.f1, .int .i64 x.f2, .int .i64 x.f3, .int .i64 x.f4, v5, v6] :=
 ⟨[.int .i64 x.f0], _, rfl, rfl, [.int .i64 x.f1], _, rfl, rfl, [.int .i64 x.f2], _, rfl, rfl, [.int .i64 x.f3], _, rfl, rfl, [.int .i64 x.f4], _, rfl, rfl, [v5], [v6], rfl, g5, g6⟩
theorem one7 (a b c d e : Int) (A B : Option Addr) (n k m j : Nat) : ∀ u ∈ [Value.int .i64 a, .int .i64 b, .int .i64 c, .int .i64 d, .int .i64 e, .slice A n k, .slice B m j], u.oneCell' = true := by
 intro u hu
 simp only [List.mem_cons, List.not_mem_nil, or_false] at hu
 rcases hu with rfl | rfl | rfl | rfl | rfl | rfl | rfl <;> rfl
theorem one1 (A : Option Addr) (n k : Nat) : ∀ u ∈ [Value.slice A n k], u.oneCell' = true := by
 intro u hu
 rw [List.mem_singleton.1 hu]
 rfl
abbrev eSw (W : World) (b : Nat) (ok : Nat → Prop) (v : Value) (ys : List (S50 ⊕ List Value)) : Prop := Kd.S e50 50 W b ok v ys
set_option maxHeartbeats 8000000 in
set_option maxRecDepth 100000 in
theorem widecode_any (A0 : Option Addr) (c0 n : Nat) (xs : List S50) (w : World) (hn : n = xs.length) (hr : Kd.C k50 w A0 xs.length xs) (hc : xs.length ≤ c0) (hl : xs.length ≤ 1600000000000) (hfit : ∀ (q : Nat) (h : q < xs.length), xs[q].f5.length ≤ 17592186044416 ∧ xs[q].f6.length ≤ 17592186044416) :
  Calls Tryd.prog 56 #[.slice A0 n c0] w fun e w' => ∃ A c, e = .returned (.slice A n c) ∧ eSw w' w.heap.size (fun _ => True) (.slice A (marked mark50 xs).length c) (marked mark50 xs) ∧ Below w.heap.size w w' := by
 obtain ⟨m, hm⟩ : ∃ m, m = n + 64 := ⟨_, rfl⟩
 have hlen : (marked mark50 xs).length = m := by rw [marked_len]; omega
 rw [hlen]
 have HW : Aside0 (wrap64 ((n : Int) + 64) = (m : Int)) := ⟨by rw [wrap_in (by omega) (by omega)]; omega⟩
 have HL : Aside0 (n = xs.length ∧ m = n + 64 ∧ n ≤ 1600000000000) := ⟨hn, hm, by omega⟩
 have HR : Aside0 (Kd.C k50 w A0 n xs) := ⟨by rw [hn]; exact hr⟩
 have HF := Aside0.mk hfit
 have HB := Aside0.mk (Below.refl w.heap.size w)
 have hm0 : n ≤ 9223372036854775807 := by omega
 have hm1 : m ≤ 9223372036854775807 := by omega
 clear hr hc hl hfit hm hn hlen
 go_enter Tryd.func56, Tryd.ntmps56
 go_wp2_with ((with_reducible refine gate_dst (N := 8) rfl ?_); refine Kd.S_make e50 (w0 := w) w.heap.size 50 rfl (N := 8) rfl 44 (.tmp 7) (.tmp 7) rfl (m : Int) (congrArg (Value.int .i64) HW.out) (congrArg (Value.int .i64) HW.out) Tryd.underlying44 _ 88 info50 rfl (by decide) (by omega) (.inr zero50) (ok := fun _ => True) (okp := fun _ => True) (either_inr ⟨rfl, rfl, by decide⟩) (fun _ h => h) trivial (Int.natCast_nonneg m) (by rw [Int.toNat_natCast]; have := HL.out; omega) HB.out (Nat.le_refl _) ?_; intro v1 w1 hs hb hg _; rw [Int.toNat_natCast] at hs; obtain ⟨A1, c1, e1⟩ := Kd.S_slice hs; rw [List.length_replicate] at e1; subst e1; have HS := Aside0.mk hs; have HB1 := Aside0.mk hb; have hle : Aside0 (m ≤ c1) := ⟨(Kd.S_reads' hs).2.1⟩; clear hs hb hg)
 obtain ⟨g, e1⟩ : ∃ g, A1 = some ⟨g, 0, none⟩ := by
  obtain ⟨g, cap, e, _⟩ := Kd.S_form HS.out (by rw [List.length_replicate]; have := HL.out; omega)
  injection e with e
  exact ⟨g, e⟩
 subst e1
 have HS0 : Aside0 (eSw w1 w.heap.size (fun _ => True) (.slice (some ⟨g, 0, none⟩) m c1) (laidTo zero50 mark50 xs 0)) := ⟨by rw [laidTo_zero, ← HL.out.1, ← HL.out.2.1]; exact HS.out⟩
 clear HS
 go_loopw [4] (fun v4 w' => ∃ q : Nat, q ≤ m ∧ v4 = .int .i64 (q : Int) ∧ Aside0 (eSw w' w.heap.size (fun _ => True) (.slice (some ⟨g, 0, none⟩) m c1) (laidTo zero50 mark50 xs q)) ∧ Aside0 (Below w.heap.size w w')) (fun i _ => m - (intOf i).toNat)
 case atStart => exact ⟨0, Nat.zero_le _, rfl, HS0, HB1⟩
 case round =>
  obtain ⟨q, hq, rfl, HS', HB'⟩ := hrel
  clear HS0 HB1
  by_cases hlt : q < m
  ·have hwp : wrap64 ((q : Int) + 1) = (q : Int) + 1 := wrap_in (by omega) (by have := HL.out; omega)
   have HQ : Aside0 (q < xs.length + 64) := ⟨by have := HL.out; omega⟩
   by_cases hlx : q < n
   ·obtain ⟨ad, A5, c5, A6, c6, e0, h0, h1, h2, h3, h4, h5, h6, hl5, hi5, hl6, hi6⟩ := at_T50 HR.out (q : Int) (Int.natCast_nonneg q) (Int.ofNat_lt.2 hlx)
    cases e0
    have hqx : q < xs.length := by have := HL.out; omega
    obtain ⟨x, hx⟩ : ∃ x, x = rd_T50 xs (q : Int) := ⟨_, rfl⟩
    rw [← hx] at h0 h1 h2 h3 h4 h5 h6 hl5 hi5 hl6 hi6
    have hx2 : xs[q] = x := by rw [hx]; unfold rd_T50; rw [Int.toNat_natCast, List.getD_eq_getElem?_getD, List.getElem?_eq_getElem hqx]; rfl
    have hf := HF.out q hqx
    rw [hx2] at hf
    have HX : Aside0 ((marked mark50 xs)[q]? = some (.inl x)) := ⟨by rw [marked_at _ _ _ hqx, hx2]⟩
    have Hf5 := Aside0.mk hf.1
    have Hf6 := Aside0.mk hf.2
    rw [Int.toNat_natCast] at h0 h1 h2 h3 h4 h5 h6
    have H0 := Aside0.mk h0
    have H1 := Aside0.mk h1
    have H2 := Aside0.mk h2
    have H3 := Aside0.mk h3
    have H4 := Aside0.mk h4
    have H5 := Aside0.mk h5
    have H6 := Aside0.mk h6
    have Hl5 := Aside0.mk hl5
    have Hl6 := Aside0.mk hl6
    have Hi5 := Aside0.mk hi5
    have Hi6 := Aside0.mk hi6
    have HLt := Aside0.mk hlt
    have HQl : Aside0 (q < (laidTo zero50 mark50 xs q).length) := ⟨by rw [laidTo_len _ _ _ _ (by have := HQ.out; omega)]; exact HQ.out⟩
    have hm5 : x.f5.length ≤ 9223372036854775807 := by omega
    have hm6 : x.f6.length ≤ 9223372036854775807 := by omega
    clear h0 h1 h2 h3 h4 h5 h6 hl5 hi5 hl6 hi6 hx hx2 hf
    go_wp2_with (first | ((with_reducible refine gate_ (.store 50 (.tmp 18) (.tmp 17)) rfl ?_); refine put_raw (d := k50w) (w0 := w) w.heap.size rfl rfl 50 (.tmp 18) (.tmp 17) rfl 50 q 0 (laidTo zero50 mark50 xs q) _ mark50 zero50 mark50 (fun _ => True) rfl rfl rfl rfl size50 (one7 _ _ _ _ _ _ _ _ _ _ _) HS'.out HLt.out (laidTo_at _ _ _ _ HQ.out) (Nat.le_refl 7) rfl rfl (one7 _ _ _ _ _ _ _ _ _ _ _) HB'.out ?_; intro w2 hs hb hg; have HS2 := Aside0.mk hs; have HB2 := Aside0.mk hb; have y0 := (HB2.out.cell (World.block_lt_of_cell? w _ H0.out)).trans H0.out; have y1 := (HB2.out.cell (World.block_lt_of_cell? w _ H1.out)).trans H1.out; have y2 := (HB2.out.cell (World.block_lt_of_cell? w _ H2.out)).trans H2.out; have y3 := (HB2.out.cell (World.block_lt_of_cell? w _ H3.out)).trans H3.out; have y4 := (HB2.out.cell (World.block_lt_of_cell? w _ H4.out)).trans H4.out; have y5 := (HB2.out.cell (World.block_lt_of_cell? w _ H5.out)).trans H5.out; have y6 := (HB2.out.cell (World.block_lt_of_cell? w _ H6.out)).trans H6.out; clear hs hb hg) | ((with_reducible refine gate_ (.store 50 (.tmp 29) (.tmp 28)) rfl ?_); refine put_raw (d := k50w) (w0 := w) w.heap.size rfl rfl 50 (.tmp 29) (.tmp 28) rfl 50 q 0 ((laidTo zero50 mark50 xs q).set q (.inr mark50)) _ [.int .i64 x.f0, .int .i64 x.f1, .int .i64 x.f2, .int .i64 x.f3, .int .i64 x.f4, .slice A5 x.f5.length c5, .slice A6 x.f6.length c6] mark50 [.int .i64 x.f0, .int .i64 x.f1, .int .i64 x.f2, .int .i64 x.f3, .int .i64 x.f4, .slice A5 x.f5.length c5, .slice A6 x.f6.length c6] (fun _ => True) rfl rfl rfl rfl size50 (one7 _ _ _ _ _ _ _ _ _ _ _) HS2.out HLt.out (List.getElem?_set_self HQl.out) (Nat.le_refl 7) rfl rfl (one7 _ _ _ _ _ _ _ _ _ _ _) HB2.out ?_; intro w3 hs hb hg; rw [List.set_set] at hs; have HG : Aside0 (g < w3.heap.size) := ⟨Kd.S_lt hs g (by simp [Value.ownBlock])⟩; have HS3 : Aside0 (eSw w3 w.heap.size (fun k => k < w3.heap.size) (.slice (some ⟨g, 0, none⟩) m c1) ((laidTo zero50 mark50 xs q).set q (.inr [.int .i64 x.f0, .int .i64 x.f1, .int .i64 x.f2, .int .i64 x.f3, .int .i64 x.f4, .slice A5 x.f5.length c5, .slice A6 x.f6.length c6]))) := ⟨Kd.S_mono (Kd.S_bound hs) (fun k hk => hk.2.2.1)⟩; have HB3 := Aside0.mk hb; clear hs hb hg y0 y1 y2 y3 y4 y5 y6; have y5 := (HB3.out.cell (World.block_lt_of_cell? w _ H5.out)).trans H5.out) | (go_at_call 91; (with_reducible refine (wideints_any A5 c5 x.f5.length x.f5 w3 rfl (Kd.C_below Hi5.out HB3.out) Hl5.out Hf5.out).mono ?_); rintro e w4 ⟨B5, b5, rfl, hM, hb⟩; have HM5 := Aside0.mk hM; have HB4 := Aside0.mk (HB3.out.trans (hb.mono HB3.out.size)); have HS4 := Aside0.mk (Kd.S_below HS3.out hb); have HZ4 := Aside0.mk hb.size; clear hM hb y5) | ((with_reducible refine gate_ (.store 48 (.tmp 39) (.tmp 37)) rfl ?_); refine put_raw (d := k50w) (w0 := w) w.heap.size rfl rfl 48 (.tmp 39) (.tmp 37) rfl 50 q 5 ((laidTo zero50 mark50 xs q).set q (.inr [.int .i64 x.f0, .int .i64 x.f1, .int .i64 x.f2, .int .i64 x.f3, .int .i64 x.f4, .slice A5 x.f5.length c5, .slice A6 x.f6.length c6])) _ [.slice B5 x.f5.length b5] [.int .i64 x.f0, .int .i64 x.f1, .int .i64 x.f2, .int .i64 x.f3, .int .i64 x.f4, .slice A5 x.f5.length c5, .slice A6 x.f6.length c6] [.int .i64 x.f0, .int .i64 x.f1, .int .i64 x.f2, .int .i64 x.f3, .int .i64 x.f4, .slice B5 x.f5.length b5, .slice A6 x.f6.length c6] (fun k => k < w3.heap.size) rfl rfl rfl rfl size48 (one1 _ _ _) HS4.out HLt.out (List.getElem?_set_self HQl.out) (show (6 : Nat) ≤ 7 by omega) rfl rfl (one7 _ _ _ _ _ _ _ _ _ _ _) HB4.out ?_; intro w5 hs hb hg; rw [List.set_set] at hs; have HS5 := Aside0.mk hs; have HB5 := Aside0.mk hb; have HM5b := Aside0.mk (Kd.M_grown HM5.out hg (fun k hk e => by injection e with e; have := HG.out; omega)); have HZ5 : Aside0 (w3.heap.size ≤ w5.heap.size) := ⟨Nat.le_trans HZ4.out hg.size⟩; clear hs hb hg; have y6 := (HB5.out.cell (World.block_lt_of_cell? w _ H6.out)).trans H6.out) | (go_at_call 91; (with_reducible refine (wideints_any A6 c6 x.f6.length x.f6 w5 rfl (Kd.C_below Hi6.out HB5.out) Hl6.out Hf6.out).mono ?_); rintro e w6 ⟨B6, b6, rfl, hM, hb⟩; have HM6 := Aside0.mk (wI.M_mono (fun k hk => Nat.le_trans HZ5.out hk) (wI.M_lower (Nat.le_trans HB5.out.size (Nat.le_refl _)) hM)); have HM5c := Aside0.mk (Kd.M_below HM5b.out hb); have HB6 := Aside0.mk (HB5.out.trans (hb.mono HB5.out.size)); have HS6 := Aside0.mk (Kd.S_below HS5.out hb); clear hM hb y6) | ((with_reducible refine gate_ (.store 48 (.tmp 49) (.tmp 47)) rfl ?_); refine put_seg (d := k50w) (w0 := w) w.heap.size rfl rfl 48 (.tmp 49) (.tmp 47) rfl 50 q 6 ((laidTo zero50 mark50 xs q).set q (.inr [.int .i64 x.f0, .int .i64 x.f1, .int .i64 x.f2, .int .i64 x.f3, .int .i64 x.f4, .slice B5 x.f5.length b5, .slice A6 x.f6.length c6])) (.inl x) _ [.slice B6 x.f6.length b6] [.int .i64 x.f0, .int .i64 x.f1, .int .i64 x.f2, .int .i64 x.f3, .int .i64 x.f4, .slice B5 x.f5.length b5, .slice A6 x.f6.length c6] (fun _ => True) (fun k => w3.heap.size ≤ k) (fun k => w3.heap.size ≤ k) rfl rfl rfl rfl size48 (one1 _ _ _) (Kd.S_mono HS6.out (fun k hk => ⟨trivial, Nat.not_le.2 hk⟩)) HLt.out (List.getElem?_set_self HQl.out) (Nat.le_refl 7) (either_inl (k50w_mk (wI.M_lower HB3.out.size HM5c.out) HM6.out)) (fun _ h => h) (fun _ _ => trivial) HB6.out ?_; intro w7 hs hb hg; rw [List.set_set, laidTo_set _ _ _ _ HQ.out _ HX.out] at hs; have HS7 := Aside0.mk hs; have HB7 := Aside0.mk hb; clear hs hb hg))
    go_roundw
    case rel => exact ⟨q + 1, by have := HLt.out; omega, by go_num, HS7, HB7⟩
    case measure => exact Nat.sub_lt_sub_left (show q < m from HLt.out) (show q < q + 1 from Nat.lt_succ_self q)
   ·have HX : Aside0 ((marked mark50 xs)[q]? = some (.inr mark50)) := ⟨marked_past _ _ _ (by have := HL.out; omega) HQ.out⟩
    have HLt := Aside0.mk hlt
    go_wp2_with ((with_reducible refine gate_ (.store 50 (.tmp 18) (.tmp 17)) rfl ?_); refine put_raw (d := k50w) (w0 := w) w.heap.size rfl rfl 50 (.tmp 18) (.tmp 17) rfl 50 q 0 (laidTo zero50 mark50 xs q) _ mark50 zero50 mark50 (fun _ => True) rfl rfl rfl rfl size50 (one7 _ _ _ _ _ _ _ _ _ _ _) HS'.out HLt.out (laidTo_at _ _ _ _ HQ.out) (Nat.le_refl 7) rfl rfl (one7 _ _ _ _ _ _ _ _ _ _ _) HB'.out ?_; intro w2 hs hb hg; rw [laidTo_set _ _ _ _ HQ.out _ HX.out] at hs; have HS2 := Aside0.mk hs; have HB2 := Aside0.mk hb; clear hs hb hg)
    go_roundw
    case rel => exact ⟨q + 1, by have := HLt.out; omega, by go_num, HS2, HB2⟩
    case measure => exact Nat.sub_lt_sub_left (show q < m from HLt.out) (show q < q + 1 from Nat.lt_succ_self q)
  ·obtain rfl : q = m := by omega
   obtain ⟨i0, hi0, _, hsz, _⟩ := info_parts info50
   have hcut := cut_cap (P := Tryd.prog) 44 50 .i64 Tryd.underlying44 hi0 (some ⟨g, 0, none⟩) q c1 (n : Int) (Int.natCast_nonneg n) (by have := HL.out; have := hle.out; omega)
   rw [Int.toNat_natCast] at hcut
   clear hi0 hsz hlt
   go_wp2_with fail
   go_ret
   have he : laidTo zero50 mark50 xs q = marked mark50 xs := by rw [HL.out.2.1, HL.out.1]; exact laidTo_all _ _ _
   exact ⟨_, _, rfl, he ▸ HS'.out, HB'.out⟩
section
variable {P : Program} {ops : Array Oper} {rest : List Oper} {o : Oper} {a : Act} {Q : Exit → Act → World → Prop}
theorem blk_store {W : World} (hN : o.dst = none) (hgd : o.guard = none) (t : TypeId) (p x : Operand) (ho : o.op = .store t p x) (e : TypeId) {g j : Nat} {cur cur2 : Array Value} (u : Value) (seg : List Value)
  (haddr : a.eval p = .pointer (some ⟨g, j, none⟩)) (hx : a.eval x = u) (hu : u.cells.toList = seg) (ht : (P.info? t).map (·.size) = some seg.length) (hone : ∀ q ∈ seg, q.oneCell' = true)
  (hh : W.heap[g]? = some (.cells cur e (0, 0))) (hfit : j + seg.length ≤ cur.size) (hc : cur2.toList = cur.toList.take j ++ seg ++ cur.toList.drop (j + seg.length))
  (h : ∀ w1, w1.heap[g]? = some (.cells cur2 e (0, 0)) → W.grownBy w1 (some g) → wpList P ops Q rest a w1) : wpList P ops Q (o :: rest) a W := by
 obtain ⟨cur', h3, h4, h5⟩ := setCells_row seg j W cur hh hfit
 obtain ⟨s1, s2, s3, s4⟩ := setCells_same g seg j W
 have e1 : cur' = cur2 := by
  apply Array.ext'
  rw [h5, hc]
 subst e1
 have hrun : (Instr.storeAt t (.pointer (some ⟨g, j, none⟩)) u).run P W = .ok () (W.setCells g j seg) := run_store_run t u seg hh hu ht hfit hone
 refine wpList_plain hgd fun K hK => ?_
 unfold Oper.wp execOp
 simp only [ho, haddr, hx, Sem.run_bind, Sem.run_pure, Result.andThen_ok, hrun]
 show K (a.put o.dst undef) _
 rw [hN]
 exact hK a _ (h _ h3 ⟨s1, s2, s3, by rw [s4]; exact Nat.le_refl _, fun k _ hk => setCells_far seg _ k (fun he => hk (by rw [he]))⟩)
end
theorem size44 : (Tryd.prog.info? 44).map (·.size) = some 1 := by kernel_rfl
theorem size24 : (Tryd.prog.info? 24).map (·.size) = some 2 := by kernel_rfl
theorem one4 (a b c : Int) (A : Option Addr) (n k : Nat) : ∀ u ∈ [Value.int .i64 a, .int .i64 b, .int .i64 c, .slice A n k], u.oneCell' = true := by
 intro u hu
 simp only [List.mem_cons, List.not_mem_nil, or_false] at hu
 rcases hu with rfl | rfl | rfl | rfl <;> rfl
theorem one2 (a : Int) (A : Option Addr) (n k : Nat) : ∀ u ∈ [Value.int .i64 a, .slice A n k], u.oneCell' = true := by
 intro u hu
 simp only [List.mem_cons, List.not_mem_nil, or_false] at hu
 rcases hu with rfl | rfl <;> rfl
def zero46 : List Value := [.int .i64 0, .int .i64 0, .int .i64 0, .slice none 0 0]
theorem k46w_mk {w : World} {base : Nat} {ok : Nat → Prop} {x : S46} {v3 : Value} (g3 : wC.M w base ok x.f3 [v3]) : k46w.M w base ok x [.int .i64 x.f0, .int .i64 x.f1, .int .i64 x.f2, v3] :=
 ⟨[.int .i64 x.f0], _, rfl, rfl, [.int .i64 x.f1], _, rfl, rfl, [.int .i64 x.f2], [v3], rfl, rfl, g3⟩
set_option maxHeartbeats 1600000 in
theorem widefunc_any (x0 x1 x2 : Int) (A0 : Option Addr) (c0 n : Nat) (xs : List S50) (w : World) (hn : n = xs.length) (hr : Kd.C k50 w A0 xs.length xs) (hc : xs.length ≤ c0) (hl : xs.length ≤ 1600000000000) (hfit : ∀ (q : Nat) (h : q < xs.length), xs[q].f5.length ≤ 17592186044416 ∧ xs[q].f6.length ≤ 17592186044416) :
  Calls Tryd.prog 30 #[.agg #[.int .i64 x0, .int .i64 x1, .int .i64 x2, .slice A0 n c0]] w fun e w' => ∃ A c, e = .returned (.agg #[.int .i64 x0, .int .i64 x1, .int .i64 x2, .slice A n c]) ∧ wC.M w' w.heap.size (fun k => w.heap.size ≤ k) xs [.slice A n c] ∧ Below w.heap.size w w' := by
 have HB := Aside0.mk (Below.refl w.heap.size w)
 have HR := Aside0.mk hr
 have HF := Aside0.mk hfit
 have HC := Aside0.mk hc
 have HL := Aside0.mk hl
 have HN := Aside0.mk hn
 clear hr hfit hc hl hn
 go_enter Tryd.func30, Tryd.ntmps30
 go_wp2_with (first | ((with_reducible refine gate_dst (N := 1) rfl ?_); refine box_event ?hg (N := 1) ?hd (cs := #[.int .i64 x0, .int .i64 x1, .int .i64 x2, .slice A0 n c0]) (t := 46) ?hr ?_; (case hd => rfl); (case hg => rfl); (case hr => first | (go_simp; done) | (go_simp; rfl)); intro g1 hg w1 hbox hb; have G1 : Aside0 (w.heap.size ≤ g1) := ⟨by have := HB.out.size; omega⟩; replace HB := Aside0.mk (HB.out.trans (hb.mono HB.out.size)); have BK1 := Aside0.mk hbox; clear hg hbox hb) | ((with_reducible refine gate_dst (N := 2) rfl ?_); refine box_event ?hg (N := 2) ?hd (cs := #[.int .i64 0, .int .i64 0, .int .i64 0, .slice none 0 0]) (t := 46) ?hr ?_; (case hd => rfl); (case hg => rfl); (case hr => first | (go_simp; done) | (go_simp; rfl)); intro g2 hg w2 hbox hb; have BK1_0 := BK1; have G2 : Aside0 (w.heap.size ≤ g2) := ⟨by have := HB.out.size; omega⟩; replace HB := Aside0.mk (HB.out.trans (hb.mono HB.out.size)); replace BK1 := Aside0.mk (blk_below BK1.out hb); have BK2 := Aside0.mk hbox; have HNe : Aside0 (g1 < g2 ∧ w1.heap.size ≤ g2) := ⟨by have := (blk_lt BK1_0.out); omega, by omega⟩; clear hg hbox hb; have z3 : w2.cell? ⟨g1, 3, none⟩ = some (.slice A0 n c0) := (blk_cell BK1.out 3).trans rfl) | (go_at_call 56; refine (widecode_any A0 c0 n xs w2 HN.out (Kd.C_below HR.out HB.out) HC.out HL.out HF.out).mono ?_; rintro e w3 ⟨A, c, rfl, hS, hb⟩; have HS := Aside0.mk hS; have HB3 := Aside0.mk (HB.out.trans (hb.mono HB.out.size)); have BK1c := Aside0.mk (blk_below BK1.out hb); have BK2c := Aside0.mk (blk_below BK2.out hb); have HZ := Aside0.mk (show g1 < w2.heap.size ∧ g2 < w2.heap.size ∧ w.heap.size ≤ w2.heap.size from ⟨blk_lt BK1.out, blk_lt BK2.out, HB.out.size⟩); clear hS hb z3) | ((with_reducible refine gate_ (.store 44 (.tmp 6) (.tmp 5)) rfl ?_); refine blk_store rfl rfl 44 (.tmp 6) (.tmp 5) rfl 46 (cur2 := #[.int .i64 x0, .int .i64 x1, .int .i64 x2, .slice A n c]) _ [.slice A n c] rfl rfl rfl size44 (one1 _ _ _) BK1c.out (Nat.le_refl 4) rfl ?_; intro w4 hk hg; have HB4 := Aside0.mk (HB3.out.grown hg HB3.out.size (fun k hk => by injection hk with hk; have := G1.out; omega)); have HS4 := Aside0.mk (Kd.S_grown (Kd.S_mono (Kd.S_bound HS.out) (fun k hk => hk.2.1 : ∀ k, _ → w2.heap.size ≤ k)) hg (fun k hk e => by injection e with e; have := HZ.out.1; omega)); have BK2d := Aside0.mk ((hg.block g2 (blk_lt BK2c.out) (fun e => by injection e with e; have := HNe.out.1; omega)).trans BK2c.out); have q0 : w4.cell? ⟨g1, 0, none⟩ = some (.int .i64 x0) := (blk_cell hk 0).trans rfl; have q1 : w4.cell? ⟨g1, 1, none⟩ = some (.int .i64 x1) := (blk_cell hk 1).trans rfl; have q2 : w4.cell? ⟨g1, 2, none⟩ = some (.int .i64 x2) := (blk_cell hk 2).trans rfl; have q3 : w4.cell? ⟨g1, 3, none⟩ = some (.slice A n c) := (blk_cell hk 3).trans rfl; clear hg hk) | ((with_reducible refine gate_ (.store 46 (.tmp 2) (.tmp 7)) rfl ?_); refine blk_store rfl rfl 46 (.tmp 2) (.tmp 7) rfl 46 (cur2 := #[.int .i64 x0, .int .i64 x1, .int .i64 x2, .slice A n c]) _ [.int .i64 x0, .int .i64 x1, .int .i64 x2, .slice A n c] rfl rfl rfl size46 (one4 _ _ _ _ _ _) BK2d.out (Nat.le_refl 4) rfl ?_; intro w5 hk hg; have HB5 := Aside0.mk (HB4.out.grown hg HB4.out.size (fun k hk => by injection hk with hk; have := G2.out; omega)); have HS5 := Aside0.mk (Kd.S_grown HS4.out hg (fun k hk e => by injection e with e; have := HZ.out.2.1; omega)); have BK2e := Aside0.mk hk; clear hg hk q0 q1 q2 q3))
 refine bodyPost_ret (results_cell_row rfl _ _ g2 46 #[.int .i64 x0, .int .i64 x1, .int .i64 x2, .slice A n c] (0, 0) _ rfl BK2e.out Tryd.underlying46 rfl (by kernel_rfl)) rfl ?_
 exact ⟨A, c, rfl, ⟨A, c, by rw [HN.out], by rw [marked_len]; omega, Kd.S_lower (Kd.S_mono HS5.out (fun k hk => Nat.le_trans HZ.out.2.2 hk)) HZ.out.2.2⟩, HB5.out⟩
abbrev fSw (W : World) (b : Nat) (ok : Nat → Prop) (v : Value) (ys : List (S46 ⊕ List Value)) : Prop := Kd.S e46 46 W b ok v ys
set_option maxHeartbeats 8000000 in
set_option maxRecDepth 100000 in
theorem wideprogram_any (G : Int) (A0 : Option Addr) (c0 n : Nat) (fs : List S46) (w : World) (hn : n = fs.length) (hr : Kd.C k46 w A0 fs.length fs) (hc : fs.length ≤ c0) (hl : fs.length ≤ 3000000000000) (hfit : ∀ (q : Nat) (h : q < fs.length), fs[q].f3.length ≤ 1600000000000 ∧ ∀ (j : Nat) (h2 : j < fs[q].f3.length), fs[q].f3[j].f5.length ≤ 17592186044416 ∧ fs[q].f3[j].f6.length ≤ 17592186044416) :
  Calls Tryd.prog 11 #[.agg #[.int .i64 G, .slice A0 n c0]] w fun e w' => ∃ A c, e = .returned (.agg #[.int .i64 G, .slice A n c]) ∧ fSw w' w.heap.size (fun _ => True) (.slice A (marked mark46 fs).length c) (marked mark46 fs) ∧ Below w.heap.size w w' := by
 obtain ⟨m, hm⟩ : ∃ m, m = n + 64 := ⟨_, rfl⟩
 have hlen : (marked mark46 fs).length = m := by rw [marked_len]; omega
 rw [hlen]
 have HW : Aside0 (wrap64 ((n : Int) + 64) = (m : Int)) := ⟨by rw [wrap_in (by omega) (by omega)]; omega⟩
 have HL : Aside0 (n = fs.length ∧ m = n + 64 ∧ n ≤ 3000000000000) := ⟨hn, hm, by omega⟩
 have HR : Aside0 (Kd.C k46 w A0 n fs) := ⟨by rw [hn]; exact hr⟩
 have HF := Aside0.mk hfit
 have HB := Aside0.mk (Below.refl w.heap.size w)
 have hm0 : n ≤ 9223372036854775807 := by omega
 have hm1 : m ≤ 9223372036854775807 := by omega
 clear hr hc hl hfit hm hn hlen
 go_enter Tryd.func11, Tryd.ntmps11
 go_wp2_with (first | ((with_reducible refine gate_dst (N := 1) rfl ?_); refine box_event ?hg (N := 1) ?hd (cs := #[.int .i64 G, .slice A0 n c0]) (t := 24) ?hr ?_; (case hd => rfl); (case hg => rfl); (case hr => first | (go_simp; done) | (go_simp; rfl)); intro g1 hg w1 hbox hb; have G1 : Aside0 (w.heap.size ≤ g1) := ⟨by have := HB.out.size; omega⟩; replace HB := Aside0.mk (HB.out.trans (hb.mono HB.out.size)); have BK1 := Aside0.mk hbox; clear hg hbox hb) | ((with_reducible refine gate_dst (N := 2) rfl ?_); refine box_event ?hg (N := 2) ?hd (cs := #[.int .i64 0, .slice none 0 0]) (t := 24) ?hr ?_; (case hd => rfl); (case hg => rfl); (case hr => first | (go_simp; done) | (go_simp; rfl)); intro g2 hg w2 hbox hb; have G2 : Aside0 (w.heap.size ≤ g2) := ⟨by have := HB.out.size; omega⟩; replace HB := Aside0.mk (HB.out.trans (hb.mono HB.out.size)); replace BK1 := Aside0.mk (blk_below BK1.out hb); have BK2 := Aside0.mk hbox; clear hg hbox hb; have z0 : w2.cell? ⟨g1, 0, none⟩ = some (.int .i64 G) := (blk_cell BK1.out 0).trans rfl; have z1 : w2.cell? ⟨g1, 1, none⟩ = some (.slice A0 n c0) := (blk_cell BK1.out 1).trans rfl) | ((with_reducible refine gate_dst (N := 9) rfl ?_); refine Kd.S_make e46 (w0 := w) w.heap.size 46 rfl (N := 9) rfl 22 (.tmp 8) (.tmp 8) rfl (m : Int) (congrArg (Value.int .i64) HW.out) (congrArg (Value.int .i64) HW.out) Tryd.underlying22 _ 48 info46 rfl (by decide) (by omega) (.inr zero46) (ok := fun _ => True) (okp := fun _ => True) (either_inr ⟨rfl, rfl, by decide⟩) (fun _ h => h) trivial (Int.natCast_nonneg m) (by rw [Int.toNat_natCast]; have := HL.out; omega) HB.out HB.out.size ?_; intro v1 w3 hs hb hg hat; rw [Int.toNat_natCast] at hs; obtain ⟨A1, c1, e1⟩ := Kd.S_slice hs; rw [List.length_replicate] at e1; subst e1; have HS := Aside0.mk hs; have HB3 := Aside0.mk hb; have hle : Aside0 (m ≤ c1) := ⟨(Kd.S_reads' hs).2.1⟩; have HAt : Aside0 (∃ b, (Value.slice A1 m c1).ownBlock = some b ∧ g1 < b ∧ g2 < b) := ⟨by obtain ⟨b, h1, h2⟩ := hat; exact ⟨b, h1, Nat.lt_of_lt_of_le (blk_lt BK1.out) h2, Nat.lt_of_lt_of_le (blk_lt BK2.out) h2⟩⟩; have HK10 := Aside0.mk ((hg.block g1 (blk_lt BK1.out) (fun e => by cases e)).trans BK1.out); have HK20 := Aside0.mk ((hg.block g2 (blk_lt BK2.out) (fun e => by cases e)).trans BK2.out); clear hs hb hg hat z0 z1))
 obtain ⟨g, e1⟩ : ∃ g, A1 = some ⟨g, 0, none⟩ := by
  obtain ⟨g, cap, e, _⟩ := Kd.S_form HS.out (by rw [List.length_replicate]; have := HL.out; omega)
  injection e with e
  exact ⟨g, e⟩
 subst e1
 have HNe : Aside0 (g1 ≠ g ∧ g2 ≠ g) := ⟨by
  obtain ⟨b, h1, h2, h3⟩ := HAt.out
  have : g = b := by simpa [Value.ownBlock] using h1
  omega⟩
 have HS0 : Aside0 (fSw w3 w.heap.size (fun _ => True) (.slice (some ⟨g, 0, none⟩) m c1) (laidTo zero46 mark46 fs 0)) := ⟨by rw [laidTo_zero, ← HL.out.1, ← HL.out.2.1]; exact HS.out⟩
 clear HS BK1 BK2 HAt
 go_loopw [4] (fun v4 w' => ∃ q : Nat, q ≤ m ∧ v4 = .int .i64 (q : Int) ∧ Aside0 (fSw w' w.heap.size (fun _ => True) (.slice (some ⟨g, 0, none⟩) m c1) (laidTo zero46 mark46 fs q)) ∧ Aside0 (w'.heap[g1]? = some (.cells #[.int .i64 G, .slice A0 n c0] 24 (0, 0))) ∧ Aside0 (w'.heap[g2]? = some (.cells #[.int .i64 0, .slice none 0 0] 24 (0, 0))) ∧ Aside0 (Below w.heap.size w w')) (fun i _ => m - (intOf i).toNat)
 case atStart => exact ⟨0, Nat.zero_le _, rfl, HS0, HK10, HK20, HB3⟩
 case round =>
  obtain ⟨q, hq, rfl, HS', HK1, HK2, HB'⟩ := hrel
  clear HS0 HB3 HK10 HK20
  have z0' : wr.cell? ⟨g1, 0, none⟩ = some (.int .i64 G) := (blk_cell HK1.out 0).trans rfl
  have z1' : wr.cell? ⟨g1, 1, none⟩ = some (.slice A0 n c0) := (blk_cell HK1.out 1).trans rfl
  by_cases hlt : q < m
  ·have hwp : wrap64 ((q : Int) + 1) = (q : Int) + 1 := wrap_in (by omega) (by have := HL.out; omega)
   have HQ : Aside0 (q < fs.length + 64) := ⟨by have := HL.out; omega⟩
   have HLt := Aside0.mk hlt
   by_cases hlx : q < n
   ·obtain ⟨ad, A3, c3, e0, h0, h1, h2, h3, hl3, hi3⟩ := at_T46 HR.out (q : Int) (Int.natCast_nonneg q) (Int.ofNat_lt.2 hlx)
    cases e0
    have hqx : q < fs.length := by have := HL.out; omega
    obtain ⟨x, hx⟩ : ∃ x, x = rd_T46 fs (q : Int) := ⟨_, rfl⟩
    rw [← hx] at h0 h1 h2 h3 hl3 hi3
    have hx2 : fs[q] = x := by rw [hx]; unfold rd_T46; rw [Int.toNat_natCast, List.getD_eq_getElem?_getD, List.getElem?_eq_getElem hqx]; rfl
    have hf := HF.out q hqx
    rw [hx2] at hf
    have HX : Aside0 ((marked mark46 fs)[q]? = some (.inl x)) := ⟨by rw [marked_at _ _ _ hqx, hx2]⟩
    have Hf3 := Aside0.mk hf
    rw [Int.toNat_natCast] at h0 h1 h2 h3
    have H0 := Aside0.mk h0
    have H1 := Aside0.mk h1
    have H2 := Aside0.mk h2
    have H3 := Aside0.mk h3
    have Hl3 := Aside0.mk hl3
    have Hi3 := Aside0.mk hi3
    have HQl : Aside0 (q < (laidTo zero46 mark46 fs q).length) := ⟨by rw [laidTo_len _ _ _ _ (by have := HQ.out; omega)]; exact HQ.out⟩
    have hm3 : x.f3.length ≤ 9223372036854775807 := by omega
    clear h0 h1 h2 h3 hl3 hi3 hx hx2 hf
    go_wp2_with (first | ((with_reducible refine gate_ (.store 46 (.tmp 19) (.tmp 18)) rfl ?_); refine put_raw (d := k46w) (w0 := w) w.heap.size rfl rfl 46 (.tmp 19) (.tmp 18) rfl 46 q 0 (laidTo zero46 mark46 fs q) _ mark46 zero46 mark46 (fun _ => True) rfl rfl rfl rfl size46 (one4 _ _ _ _ _ _) HS'.out HLt.out (laidTo_at _ _ _ _ HQ.out) (Nat.le_refl 4) rfl rfl (one4 _ _ _ _ _ _) HB'.out ?_; intro w2 hs hb hg; have y0 := ((show Aside0 (Below w.heap.size w w2) from ⟨hb⟩).out.cell (World.block_lt_of_cell? w _ H0.out)).trans H0.out; have y1 := ((show Aside0 (Below w.heap.size w w2) from ⟨hb⟩).out.cell (World.block_lt_of_cell? w _ H1.out)).trans H1.out; have y2 := ((show Aside0 (Below w.heap.size w w2) from ⟨hb⟩).out.cell (World.block_lt_of_cell? w _ H2.out)).trans H2.out; have y3 := ((show Aside0 (Below w.heap.size w w2) from ⟨hb⟩).out.cell (World.block_lt_of_cell? w _ H3.out)).trans H3.out; have HS2 := Aside0.mk hs; have HB2 := Aside0.mk hb; have HK1b := Aside0.mk ((hg.block g1 (blk_lt HK1.out) (fun e => HNe.out.1 (Option.some.inj e))).trans HK1.out); have HK2b := Aside0.mk ((hg.block g2 (blk_lt HK2.out) (fun e => HNe.out.2 (Option.some.inj e))).trans HK2.out); have z0 : w2.cell? ⟨g1, 0, none⟩ = some (.int .i64 G) := (blk_cell HK1b.out 0).trans rfl; have z1 : w2.cell? ⟨g1, 1, none⟩ = some (.slice _ n c0) := (blk_cell HK1b.out 1).trans rfl; clear hs hb hg z0' z1') | (go_at_call 30; refine (widefunc_any x.f0 x.f1 x.f2 A3 c3 x.f3.length x.f3 w2 rfl (Kd.C_below Hi3.out HB2.out) Hl3.out Hf3.out.1 Hf3.out.2).mono ?_; rintro e w3 ⟨B3, b3, rfl, hM, hb⟩; have HM3 := Aside0.mk hM; have HB3 := Aside0.mk (HB2.out.trans (hb.mono HB2.out.size)); have HS3 := Aside0.mk (Kd.S_below (Kd.S_mono (Kd.S_bound HS2.out) (fun k hk => hk.2.2.1 : ∀ k, _ → k < w2.heap.size)) hb); have HK1c := Aside0.mk (blk_below HK1b.out hb); have HK2c := Aside0.mk (blk_below HK2b.out hb); clear hM hb y0 y1 y2 y3 z0 z1) | ((with_reducible refine gate_ (.store 46 (.tmp 33) (.tmp 32)) rfl ?_); refine put_seg (d := k46w) (w0 := w) w.heap.size rfl rfl 46 (.tmp 33) (.tmp 32) rfl 46 q 0 ((laidTo zero46 mark46 fs q).set q (.inr mark46)) (.inl x) _ [.int .i64 x.f0, .int .i64 x.f1, .int .i64 x.f2, .slice B3 x.f3.length b3] mark46 (fun _ => True) (fun k => w2.heap.size ≤ k) (fun k => w2.heap.size ≤ k) rfl rfl rfl rfl size46 (one4 _ _ _ _ _ _) (Kd.S_mono HS3.out (fun k hk => ⟨trivial, Nat.not_le.2 hk⟩)) HLt.out (List.getElem?_set_self HQl.out) (Nat.le_refl 4) (either_inl (k46w_mk (wC.M_lower HB2.out.size HM3.out))) (fun _ h => h) (fun _ _ => trivial) HB3.out ?_; intro w4 hs hb hg; rw [List.set_set, laidTo_set _ _ _ _ HQ.out _ HX.out] at hs; have HS4 := Aside0.mk hs; have HB4 := Aside0.mk hb; have HK1d := Aside0.mk ((hg.block g1 (blk_lt HK1c.out) (fun e => HNe.out.1 (Option.some.inj e))).trans HK1c.out); have HK2d := Aside0.mk ((hg.block g2 (blk_lt HK2c.out) (fun e => HNe.out.2 (Option.some.inj e))).trans HK2c.out); clear hs hb hg))
    go_roundw
    case rel => exact ⟨q + 1, by have := HLt.out; omega, by go_num, HS4, HK1d, HK2d, HB4⟩
    case measure => exact Nat.sub_lt_sub_left (show q < m from HLt.out) (show q < q + 1 from Nat.lt_succ_self q)
   ·have HX : Aside0 ((marked mark46 fs)[q]? = some (.inr mark46)) := ⟨marked_past _ _ _ (by have := HL.out; omega) HQ.out⟩
    go_wp2_with ((with_reducible refine gate_ (.store 46 (.tmp 19) (.tmp 18)) rfl ?_); refine put_raw (d := k46w) (w0 := w) w.heap.size rfl rfl 46 (.tmp 19) (.tmp 18) rfl 46 q 0 (laidTo zero46 mark46 fs q) _ mark46 zero46 mark46 (fun _ => True) rfl rfl rfl rfl size46 (one4 _ _ _ _ _ _) HS'.out HLt.out (laidTo_at _ _ _ _ HQ.out) (Nat.le_refl 4) rfl rfl (one4 _ _ _ _ _ _) HB'.out ?_; intro w2 hs hb hg; rw [laidTo_set _ _ _ _ HQ.out _ HX.out] at hs; have HS2 := Aside0.mk hs; have HB2 := Aside0.mk hb; have HK1b := Aside0.mk ((hg.block g1 (blk_lt HK1.out) (fun e => HNe.out.1 (Option.some.inj e))).trans HK1.out); have HK2b := Aside0.mk ((hg.block g2 (blk_lt HK2.out) (fun e => HNe.out.2 (Option.some.inj e))).trans HK2.out); have z0 : w2.cell? ⟨g1, 0, none⟩ = some (.int .i64 G) := (blk_cell HK1b.out 0).trans rfl; have z1 : w2.cell? ⟨g1, 1, none⟩ = some (.slice _ n c0) := (blk_cell HK1b.out 1).trans rfl; clear hs hb hg z0' z1')
    go_roundw
    case rel => exact ⟨q + 1, by have := HLt.out; omega, by go_num, HS2, HK1b, HK2b, HB2⟩
    case measure => exact Nat.sub_lt_sub_left (show q < m from HLt.out) (show q < q + 1 from Nat.lt_succ_self q)
  ·obtain rfl : q = m := by omega
   obtain ⟨i0, hi0, _, hsz, _⟩ := info_parts info46
   have hcut := cut_cap (P := Tryd.prog) 22 46 .i64 Tryd.underlying22 hi0 (some ⟨g, 0, none⟩) q c1 (n : Int) (Int.natCast_nonneg n) (by have := HL.out; have := hle.out; omega)
   rw [Int.toNat_natCast] at hcut
   have he : Aside0 (laidTo zero46 mark46 fs q = marked mark46 fs) := ⟨by rw [HL.out.2.1, HL.out.1]; exact laidTo_all _ _ _⟩
   have HLt := Aside0.mk hlt
   clear hi0 hsz hlt
   go_wp2_with fail
   refine wp_tail 8 (by kernel_rfl) (by kernel_rfl) ?_
   simp only [List.take_succ_cons, List.take_zero, List.drop_succ_cons, List.drop_zero]
   repeat still_step
   refine wpStill_nil ?_
   go_wp2_with ((with_reducible refine gate_ (.store 24 (.tmp 2) (.tmp 41)) rfl ?_); refine blk_store rfl rfl 24 (.tmp 2) (.tmp 41) rfl 24 (cur2 := #[.int .i64 G, .slice (some ⟨g, 0, none⟩) n c1]) _ [.int .i64 G, .slice (some ⟨g, 0, none⟩) n c1] rfl rfl rfl size24 (one2 _ _ _ _) HK2.out (Nat.le_refl 2) rfl ?_; intro w5 hk hg; have HB5 := Aside0.mk ((below_drew HB'.out).grown hg HB'.out.size (fun k hk => by injection hk with hk; have := G2.out; omega)); have HS5 := Aside0.mk (Kd.S_mono (Kd.S_grown (Kd.S_types (Kd.S_drew HS'.out) HK2.out (by decide)) hg (fun k hk e => hk.2 (Option.some.inj e))) (fun _ h => h.1)); have BK2e := Aside0.mk hk; clear hg hk)
   refine bodyPost_ret (results_cell_row rfl _ _ g2 24 #[.int .i64 G, .slice (some ⟨g, 0, none⟩) n c1] (0, 0) _ rfl BK2e.out Tryd.underlying24 rfl (by kernel_rfl)) rfl ?_
   exact ⟨_, _, rfl, he.out ▸ HS5.out, HB5.out⟩
def In50 (x : S50) : Prop := x.f5.length ≤ 17592186044416 ∧ x.f6.length ≤ 17592186044416
def In46 (f : S46) : Prop := f.f3.length ≤ 1599289640401 ∧ ∀ x ∈ f.f3, In50 x
def In24 (fs : List S46) : Prop := fs.length ≤ 2932031007402 ∧ ∀ f ∈ fs, In46 f
theorem size3 : (Tryd.prog.info? 3).map (·.size) = some 1 := by kernel_rfl
theorem oneI (z : Int) : ∀ u ∈ [Value.int .i64 z], u.oneCell' = true := by
 intro u hu
 rw [List.mem_singleton.1 hu]
 rfl
structure TurnI (base : Nat) (w0 : World) (ok : Nat → Prop) (v : Value) (fs : List S46) (q : Int) (oki : Nat → Prop) (c : List Value) (v3 : Value) (g1 : Nat) (bc : Array Value) (ys : List S50) (W : World) : Prop where
 row : k50.R 50 W base oki v3 ys
 hole : Kd.H k46 46 W base (fun k => ok k ∧ k ≠ g1) v fs q oki c
 blk : W.heap[g1]? = some (.cells bc 24 (0, 0))
 below : Below base w0 W
 kept : Kept w0 W ok
theorem turn_at {base : Nat} {w0 : World} {ok : Nat → Prop} {v : Value} {fs : List S46} {q : Int} {oki : Nat → Prop} {c : List Value} {g1 h len c3 : Nat} {bc : Array Value} {ys : List S50} {W : World} (HI : TurnI base w0 ok v fs q oki c (.slice (some ⟨h, 0, none⟩) len c3) g1 bc ys W) (k : Nat) {y : S50} (hy : ys[k]? = some y) :
  W.cell? ⟨h, k * 7, none⟩ = some (.int .i64 y.f0) ∧ W.cell? ⟨h, k * 7 + 4, none⟩ = some (.int .i64 y.f4) := by
 have hl := (List.getElem?_eq_some_iff.1 hy).1
 have hn := (Kd.R_reads' HI.row).1
 obtain ⟨cc, hcl, hM, hcc, _⟩ := Kd.R_elem HI.row z50 (k : Int) (Int.natCast_nonneg k) (by omega)
 rw [Int.toNat_natCast, List.getD_eq_getElem?_getD, hy, Option.getD_some] at hM
 obtain ⟨v5, v6, rfl, _, _⟩ := k50_openM hM
 have h0 := hcc 0 _ rfl
 have h4 := hcc 4 _ rfl
 rw [Int.toNat_natCast] at h0 h4
 exact ⟨h0, h4⟩
section
variable {P : Program} {ops : Array Oper} {rest : List Oper} {o : Oper} {a : Act} {Q : Exit → Act → World → Prop}
theorem turn_store {base : Nat} {w0 : World} {ok : Nat → Prop} {v : Value} {fs : List S46} {q : Int} {oki : Nat → Prop} {c : List Value} {g1 h len c3 : Nat} {bc : Array Value} {ys : List S50} {W : World} (hN : o.dst = none) (hgd : o.guard = none) (p x : Operand) (ho : o.op = .store 3 p x) (hs : (P.info? 3).map (·.size) = some 1) (k j : Nat) (y x' : S50) (z : Int)
  (haddr : a.eval p = .pointer (some ⟨h, k * 7 + j, none⟩)) (hx : a.eval x = .int .i64 z) (hj : j + 1 ≤ 7)
  (he : ∀ v5 v6, ([.int .i64 y.f0, .int .i64 y.f1, .int .i64 y.f2, .int .i64 y.f3, .int .i64 y.f4, v5, v6] : List Value).take j ++ [.int .i64 z] ++ ([.int .i64 y.f0, .int .i64 y.f1, .int .i64 y.f2, .int .i64 y.f3, .int .i64 y.f4, v5, v6] : List Value).drop (j + 1) = [.int .i64 x'.f0, .int .i64 x'.f1, .int .i64 x'.f2, .int .i64 x'.f3, .int .i64 x'.f4, v5, v6])
  (h5 : x'.f5 = y.f5) (h6 : x'.f6 = y.f6) (hy : ys[k]? = some y)
  (HI : TurnI base w0 ok v fs q oki c (.slice (some ⟨h, 0, none⟩) len c3) g1 bc ys W)
  (hc : ∀ w1, TurnI base w0 ok v fs q oki c (.slice (some ⟨h, 0, none⟩) len c3) g1 bc (ys.set k x') w1 → wpList P ops Q rest a w1) : wpList P ops Q (o :: rest) a W := by
 have hl := (List.getElem?_eq_some_iff.1 hy).1
 have hn := (Kd.R_reads' HI.row).1
 obtain ⟨cc, hcl, hM, hcc, _⟩ := Kd.R_elem HI.row z50 (k : Int) (Int.natCast_nonneg k) (by omega)
 rw [Int.toNat_natCast, List.getD_eq_getElem?_getD, hy, Option.getD_some] at hM
 obtain ⟨v5, v6, rfl, g5, g6⟩ := k50_openM hM
 have hoh : oki h := HI.row.1 h (by simp [Value.ownBlock])
 refine Kd.R_store k50 (w0 := w0) base hN hgd 3 p x ho 50 (g := h) (n := len) (cap := c3) (k : Int) j ys x' (.int .i64 z) [.int .i64 z] _ oki (fun b => oki b ∧ b ≠ h) haddr (by rw [Int.toNat_natCast]; rfl) hx rfl hs (oneI z) HI.row (Int.natCast_nonneg k) (by omega) hcl hcc hj ?_ (fun _ hk => hk) HI.below ?_
 ·rw [List.length_singleton, he v5 v6]
  exact k50_mkM W base _ x' (h5 ▸ g5) (h6 ▸ g6)
 ·intro w1 hr hb hg
  rw [Int.toNat_natCast] at hr
  refine hc w1 ⟨hr, Kd.H_grown HI.hole hg (fun b hb => by injection hb with hb; exact hb ▸ hoh), (hg.block g1 (blk_lt HI.blk) (fun e => ?_)).trans HI.blk, hb, Kept.of_grown hg HI.kept (fun b hb => by injection hb with hb; exact .inl (hb ▸ (HI.hole.1 h hoh).1))⟩
  injection e with e
  exact (HI.hole.1 h hoh).2 e.symm
end
theorem in_set {ys : List S50} {k : Nat} {x' : S50} (h : ∀ y ∈ ys, In50 y) (hx : In50 x') : ∀ y ∈ ys.set k x', In50 y := fun y hy => by
 rcases List.mem_or_eq_of_mem_set hy with h1 | h1
 ·exact h y h1
 ·exact h1 ▸ hx
theorem in_set46 {fs : List S46} {k : Nat} {f : S46} (h : In24 fs) (hx : In46 f) : In24 (fs.set k f) := ⟨by rw [List.length_set]; exact h.1, fun y hy => by
 rcases List.mem_or_eq_of_mem_set hy with h1 | h1
 ·exact h.2 y h1
 ·exact h1 ▸ hx⟩
def TurnPost (base n : Nat) (w : World) (ok : Nat → Prop) (v : Value) (e : Ending) (w' : World) : Prop := (∃ u, e = .returned u) ∧ ∃ fs', fs'.length = n ∧ In24 fs' ∧ Kd.S k46 46 w' base ok v fs' ∧ Below base w w' ∧ Kept w w' ok
structure TurnO (base n : Nat) (w0 : World) (ok : Nat → Prop) (v : Value) (g1 : Nat) (bc : Array Value) (fs : List S46) (W : World) : Prop where
 len : fs.length = n
 fit : In24 fs
 row : Kd.S k46 46 W base (fun k => ok k ∧ k ≠ g1) v fs
 blk : W.heap[g1]? = some (.cells bc 24 (0, 0))
 below : Below base w0 W
 kept : Kept w0 W ok
set_option maxHeartbeats 8000000 in
set_option maxRecDepth 100000 in
theorem turned_any (G : Int) (A0 : Option Addr) (c0 n base : Nat) (ok : Nat → Prop) (fs : List S46) (w : World) (hn : fs.length = n) (hS : Kd.S k46 46 w base ok (.slice A0 n c0) fs) (hb : base ≤ w.heap.size) (hfit : In24 fs) :
  Calls Tryd.prog 18 #[.agg #[.int .i64 G, .slice A0 n c0]] w (TurnPost base n w ok (.slice A0 n c0)) := by
 have HS := Aside0.mk hS
 have HF := Aside0.mk hfit
 have HN := Aside0.mk hn
 have Hb := Aside0.mk hb
 have hm0 : n ≤ 9223372036854775807 := by have := hfit.1; omega
 have HL : Aside0 (n ≤ 2932031007402) := ⟨by have := hfit.1; omega⟩
 have HB := Aside0.mk (Below.refl w.heap.size w)
 clear hS hfit hn hb
 go_enter Tryd.func18, Tryd.ntmps18
 go_wp2_with ((with_reducible refine gate_dst (N := 1) rfl ?_); refine box_event ?hg (N := 1) ?hd (cs := #[.int .i64 G, .slice A0 n c0]) (t := 24) ?hr ?_; (case hd => rfl); (case hg => rfl); (case hr => first | (go_simp; done) | (go_simp; rfl)); intro g1 hg w1 hbox hb; have G1 : Aside0 (w.heap.size ≤ g1) := ⟨by have := HB.out.size; omega⟩; replace HB := Aside0.mk (HB.out.trans (hb.mono HB.out.size)); have BK1 := Aside0.mk hbox; clear hg hbox hb)
 have HO : Aside0 (TurnO base n w ok (.slice A0 n c0) g1 #[.int .i64 G, .slice A0 n c0] fs w1) := ⟨HN.out, HF.out, Kd.S_below (Kd.S_elderB HS.out g1 G1.out) HB.out, BK1.out, HB.out.mono Hb.out, Kept.of_below HB.out ok⟩
 clear HB BK1
 go_loopw [2] (fun v2 w' => ∃ (q : Nat) (fs' : List S46), q ≤ n ∧ v2 = .int .i64 (q : Int) ∧ Aside0 (TurnO base n w ok (.slice A0 n c0) g1 #[.int .i64 G, .slice A0 n c0] fs' w')) (fun i _ => n - (intOf i).toNat)
 case atStart => exact ⟨0, fs, Nat.zero_le _, rfl, HO⟩
 case round =>
  obtain ⟨q, fs', hq, rfl, HO'⟩ := hrel
  clear HO
  by_cases hlt : q < n
  ·have HWp : Aside0 (wrap64 ((q : Int) + 1) = (q : Int) + 1) := ⟨wrap_in (by omega) (by have := HL.out; omega)⟩
   have hq0 : (0 : Int) ≤ (q : Int) := Int.natCast_nonneg q
   obtain ⟨g, cap, e0, _⟩ := Kd.S_form HO'.out.row (by rw [HO'.out.len]; omega)
   injection e0 with e0 e1 e2
   clear e1 e2
   subst e0
   have Hg1 : Aside0 (g1 ≠ g) := ⟨fun e => by have := Kd.S_away HO'.out.row (g := g1) (fun k hk => hk.2); exact this (by rw [e]; simp [Value.ownBlock])⟩
   have HGo : Aside0 (ok g) := ⟨(HO'.out.row.choose_spec.1 g (by simp [Value.ownBlock])).1⟩
   have hqf : q < fs'.length := by rw [HO'.out.len]; exact hlt
   obtain ⟨x, hx⟩ : ∃ x, x = fs'[q] := ⟨_, rfl⟩
   obtain ⟨oki, c, hcl, hM, hcc, hfr, hoki, HH⟩ := Kd.S_elem HO'.out.row x (q : Int) hq0 (Int.ofNat_lt.2 hlt)
   rw [Int.toNat_natCast, List.getD_eq_getElem?_getD, List.getElem?_eq_getElem hqf] at hM
   replace hM : k46.M wr base oki x c := by rw [hx]; exact hM
   obtain ⟨v3, rfl, hR3⟩ := k46_openM hM
   obtain ⟨A3, c3, rfl⟩ := Kd.R_slice hR3
   have HXi : Aside0 (In46 x) := ⟨by rw [hx]; exact HO'.out.fit.2 _ (List.getElem_mem hqf)⟩
   obtain ⟨len, hlen⟩ : ∃ len, len = x.f3.length := ⟨_, rfl⟩
   rw [← hlen] at hR3 hcc HH
   have HI : Aside0 (TurnI base w ok (.slice (some ⟨g, 0, none⟩) n c0) fs' (q : Int) oki [.int .i64 x.f0, .int .i64 x.f1, .int .i64 x.f2, .slice A3 len c3] (.slice A3 len c3) g1 #[.int .i64 G, .slice (some ⟨g, 0, none⟩) n c0] x.f3 wr) := ⟨hR3, HH, HO'.out.blk, HO'.out.below, HO'.out.kept⟩
   have Hoki := Aside0.mk hoki
   have HLen : Aside0 (x.f3.length = len ∧ ∀ y ∈ x.f3, In50 y) := ⟨hlen.symm, HXi.out.2⟩
   have hm3 : len ≤ 9223372036854775807 := by have := HXi.out.1; omega
   have HL3 : Aside0 (len ≤ 1599289640401) := ⟨by have := HXi.out.1; omega⟩
   have HX := Aside0.mk hx
   have HLt := Aside0.mk hlt
   have z1 : wr.cell? ⟨g1, 1, none⟩ = some (.slice (some ⟨g, 0, none⟩) n c0) := (blk_cell HI.out.blk 1).trans rfl
   clear hcl hM hcc hfr hoki HH hR3 hlen hx
   go_wp2_with fail
   clear z1
   go_loopw [3] (fun v3 w' => ∃ (k : Nat) (ys : List S50), k ≤ len ∧ v3 = .int .i64 (k : Int) ∧ Aside0 (TurnI base w ok (.slice (some ⟨g, 0, none⟩) n c0) fs' (q : Int) oki [.int .i64 x.f0, .int .i64 x.f1, .int .i64 x.f2, .slice A3 len c3] (.slice A3 len c3) g1 #[.int .i64 G, .slice (some ⟨g, 0, none⟩) n c0] ys w') ∧ Aside0 (ys.length = len ∧ ∀ y ∈ ys, In50 y)) (fun i _ => len - (intOf i).toNat)
   case atStart => exact ⟨0, _, Nat.zero_le _, rfl, HI, HLen⟩
   case round =>
    obtain ⟨k, ys, hk, rfl, HI', HLen'⟩ := hrel
    clear HI HLen
    have z1 : wr.cell? ⟨g1, 1, none⟩ = some (.slice (some ⟨g, 0, none⟩) n c0) := (blk_cell HI'.out.blk 1).trans rfl
    obtain ⟨hcg, hcf⟩ := Kd.H_at HI'.out.hole hq0 (Int.ofNat_lt.2 HLt.out)
    have z3 : wr.cell? ⟨g, q * 4 + 3, none⟩ = some (.slice A3 len c3) := by have := hcg 3 _ rfl; rwa [Int.toNat_natCast] at this
    have z2 : wr.cell? ⟨g, q * 4 + 2, none⟩ = some (.int .i64 x.f2) := by have := hcg 2 _ rfl; rwa [Int.toNat_natCast] at this
    clear hcg hcf
    by_cases hkt : k < len
    ·have hwk : wrap64 ((k : Int) + 1) = (k : Int) + 1 := wrap_in (by omega) (by have := HL3.out; omega)
     have hk0 : (0 : Int) ≤ (k : Int) := Int.natCast_nonneg k
     obtain ⟨h, cap3, e0, _⟩ := Kd.R_form HI'.out.row (by rw [HLen'.out.1]; omega)
     injection e0 with e0 e1 e2
     clear e1 e2
     subst e0
     have hky : k < ys.length := by rw [HLen'.out.1]; exact hkt
     obtain ⟨yc, hy⟩ : ∃ y, ys[k]? = some y := ⟨_, List.getElem?_eq_getElem hky⟩
     obtain ⟨y0, y4⟩ := turn_at HI'.out k hy
     obtain ⟨N, hN⟩ : ∃ N, N = yc.f4 := ⟨_, rfl⟩
     have HNe := Aside0.mk hN
     rw [← hN] at y4
     have HY := Aside0.mk hy
     have HYi : Aside0 (In50 yc) := ⟨HLen'.out.2 yc (List.mem_of_getElem? hy)⟩
     have HKt := Aside0.mk hkt
     clear hy hN
     have hA : (decide ((0 : Int) ≤ yc.f0) = true ∧ decide (yc.f0 < 18) = true) ∨ (decide ((0 : Int) ≤ yc.f0) = true ∧ decide (yc.f0 < 18) = false) ∨ decide ((0 : Int) ≤ yc.f0) = false := by
      by_cases a1 : (0 : Int) ≤ yc.f0
      ·by_cases a2 : yc.f0 < 18
       ·exact .inl ⟨decide_eq_true a1, decide_eq_true a2⟩
       ·exact .inr (.inl ⟨decide_eq_true a1, decide_eq_false a2⟩)
      ·exact .inr (.inr (decide_eq_false a1))
     have hB : ((q : Int) % 2 = 1 ∧ decide (0 < N) = true) ∨ ((q : Int) % 2 = 1 ∧ decide (0 < N) = false) ∨ ¬ (q : Int) % 2 = 1 := by
      by_cases a1 : (q : Int) % 2 = 1
      ·by_cases a2 : 0 < N
       ·exact .inl ⟨a1, decide_eq_true a2⟩
       ·exact .inr (.inl ⟨a1, decide_eq_false a2⟩)
      ·exact .inr (.inr a1)
     clear z2
     rcases hA with ⟨d1, d2⟩ | ⟨d1, d2⟩ | d1 <;> rcases hB with ⟨d3, d4⟩ | ⟨d3, d4⟩ | d3
     all_goals
      go_wp2_with (first | ((with_reducible refine gate_ (.store 3 (.tmp 49) (.tmp 47)) rfl ?_); refine turn_store (w0 := w) rfl rfl (.tmp 49) (.tmp 47) rfl size3 k 0 yc ⟨wrap64 (yc.f0 + 1), yc.f1, yc.f2, yc.f3, yc.f4, yc.f5, yc.f6⟩ _ rfl rfl (by decide) (fun _ _ => rfl) rfl rfl HY.out HI'.out ?_; intro w5 hi; obtain ⟨y2, hy2⟩ : ∃ y2, y2 = (⟨wrap64 (yc.f0 + 1), yc.f1, yc.f2, yc.f3, yc.f4, yc.f5, yc.f6⟩ : S50) := ⟨_, rfl⟩; have HYi2 : Aside0 (In50 y2) := ⟨by rw [hy2]; exact HYi.out⟩; have hf4 : y2.f4 = N := (congrArg S50.f4 hy2).trans HNe.out.symm; rw [← hy2] at hi; obtain ⟨ys2, hys⟩ : ∃ ys2, ys2 = ys.set k y2 := ⟨_, rfl⟩; rw [← hys] at hi; have HY2 : Aside0 (ys2[k]? = some y2) := ⟨by rw [hys]; exact List.getElem?_set_self hky⟩; have HLen2 : Aside0 (ys2.length = len ∧ ∀ y ∈ ys2, In50 y) := ⟨by rw [hys, List.length_set]; exact ⟨HLen'.out.1, in_set HLen'.out.2 HYi2.out⟩⟩; clear z1 z3 y0 y4 HI' HY HLen' HYi; have y4 : w5.cell? ⟨h, k * 7 + 4, none⟩ = some (.int .i64 N) := (by rw [← hf4]; exact (turn_at hi k HY2.out).2); obtain ⟨hcg, hcf⟩ := Kd.H_at hi.hole hq0 (Int.ofNat_lt.2 HLt.out); have z1 : w5.cell? ⟨g1, 1, none⟩ = some (.slice (some ⟨g, 0, none⟩) n c0) := (blk_cell hi.blk 1).trans rfl; have z3 : w5.cell? ⟨g, q * 4 + 3, none⟩ = some (.slice (some ⟨h, 0, none⟩) len c3) := (by have := hcg 3 _ rfl; rwa [Int.toNat_natCast] at this); have HI' := Aside0.mk hi; have HY := HY2; have HLen' := HLen2; have HYi := HYi2; clear hcg hcf hi hy2 hf4 hys HY2 HLen2 HYi2) | ((with_reducible refine gate_ (.store 3 (.tmp 78) (.tmp 76)) rfl ?_); refine turn_store (w0 := w) rfl rfl (.tmp 78) (.tmp 76) rfl size3 k 4 yc ⟨yc.f0, yc.f1, yc.f2, yc.f3, wrap64 (N - 1), yc.f5, yc.f6⟩ _ rfl rfl (by decide) (fun _ _ => rfl) rfl rfl HY.out HI'.out ?_; intro w6 hi; have HLen2 : Aside0 ((ys.set k ⟨yc.f0, yc.f1, yc.f2, yc.f3, wrap64 (N - 1), yc.f5, yc.f6⟩).length = len ∧ ∀ y ∈ (ys.set k ⟨yc.f0, yc.f1, yc.f2, yc.f3, wrap64 (N - 1), yc.f5, yc.f6⟩), In50 y) := ⟨by rw [List.length_set]; exact ⟨HLen'.out.1, in_set HLen'.out.2 (show In50 _ from HYi.out)⟩⟩; clear z1 z3 y4 HI' HLen'; have HI' := Aside0.mk hi; have HLen' := HLen2; clear hi HLen2) | ((with_reducible refine gate_ (.store 3 (.tmp 78) (.tmp 76)) rfl ?_); refine turn_store (w0 := w) rfl rfl (.tmp 78) (.tmp 76) rfl size3 k 4 y2 ⟨y2.f0, y2.f1, y2.f2, y2.f3, wrap64 (N - 1), y2.f5, y2.f6⟩ _ rfl rfl (by decide) (fun _ _ => rfl) rfl rfl HY.out HI'.out ?_; intro w6 hi; have HLen2 : Aside0 ((ys2.set k ⟨y2.f0, y2.f1, y2.f2, y2.f3, wrap64 (N - 1), y2.f5, y2.f6⟩).length = len ∧ ∀ y ∈ (ys2.set k ⟨y2.f0, y2.f1, y2.f2, y2.f3, wrap64 (N - 1), y2.f5, y2.f6⟩), In50 y) := ⟨by rw [List.length_set]; exact ⟨HLen'.out.1, in_set HLen'.out.2 (show In50 _ from HYi.out)⟩⟩; clear z1 z3 y4 HI' HLen'; have HI' := Aside0.mk hi; have HLen' := HLen2; clear hi HLen2))
      go_roundw
      case rel => exact ⟨k + 1, _, by have := HKt.out; omega, by go_num, HI', HLen'⟩
      case measure => exact Nat.sub_lt_sub_left (show k < len from HKt.out) (show k < k + 1 from Nat.lt_succ_self k)
    ·obtain rfl : k = len := by omega
     have HIx : Aside0 (In46 ⟨x.f0, x.f1, x.f2, ys⟩) := ⟨by show ys.length ≤ _; rw [HLen'.out.1]; exact HL3.out, HLen'.out.2⟩
     have HSb : Aside0 (TurnO base n w ok (.slice (some ⟨g, 0, none⟩) n c0) g1 #[.int .i64 G, .slice (some ⟨g, 0, none⟩) n c0] (fs'.set q ⟨x.f0, x.f1, x.f2, ys⟩) wr) := ⟨by rw [List.length_set]; exact HO'.out.len, in_set46 HO'.out.fit HIx.out, by have := Kd.H_back HI'.out.hole (k46_mkM wr base oki ⟨x.f0, x.f1, x.f2, ys⟩ HI'.out.row) (fun _ h => h); rwa [Int.toNat_natCast] at this, HI'.out.blk, HI'.out.below, HI'.out.kept⟩
     have hwp := HWp.out
     have hB : ((q : Int) % 3 = 2 ∧ decide (0 < x.f2) = true) ∨ ((q : Int) % 3 = 2 ∧ decide (0 < x.f2) = false) ∨ ¬ (q : Int) % 3 = 2 := by
      by_cases a1 : (q : Int) % 3 = 2
      ·by_cases a2 : 0 < x.f2
       ·exact .inl ⟨a1, decide_eq_true a2⟩
       ·exact .inr (.inl ⟨a1, decide_eq_false a2⟩)
      ·exact .inr (.inr a1)
     rcases hB with ⟨d3, d4⟩ | ⟨d3, d4⟩ | d3
     ·go_wp2_with ((with_reducible refine gate_ (.store 3 (.tmp 99) (.tmp 97)) rfl ?_); refine Kd.H_store k46 (w0 := w) base rfl rfl 3 (.tmp 99) (.tmp 97) rfl 46 (q : Int) 2 fs' ⟨x.f0, x.f1, wrap64 (x.f2 - 1), ys⟩ (.int .i64 (wrap64 (x.f2 - 1))) [.int .i64 (wrap64 (x.f2 - 1))] _ (fun k => ok k ∧ k ≠ g1) oki oki rfl (by rw [Int.toNat_natCast]; rfl) rfl rfl size3 (oneI _) HI'.out.hole hq0 (Int.ofNat_lt.2 HLt.out) (show (3 : Nat) ≤ 4 by omega) (k46_mkM wr base oki ⟨x.f0, x.f1, wrap64 (x.f2 - 1), ys⟩ HI'.out.row) (fun _ h => h) HI'.out.below ?_; intro w5 hs hb hg; rw [Int.toNat_natCast] at hs; have HSc : Aside0 (TurnO base n w ok (.slice (some ⟨g, 0, none⟩) n c0) g1 #[.int .i64 G, .slice (some ⟨g, 0, none⟩) n c0] (fs'.set q ⟨x.f0, x.f1, wrap64 (x.f2 - 1), ys⟩) w5) := ⟨by rw [List.length_set]; exact HO'.out.len, in_set46 HO'.out.fit HIx.out, hs, (hg.block g1 (blk_lt HI'.out.blk) (fun e => Hg1.out (Option.some.inj e))).trans HI'.out.blk, hb, Kept.of_grown hg HI'.out.kept (fun b hb => by injection hb with hb; exact .inl (hb ▸ HGo.out))⟩; clear hs hb hg z1 z2 z3)
      go_roundw
      case rel => exact ⟨q + 1, _, by have := HLt.out; omega, by go_num, HSc⟩
      case measure => exact Nat.sub_lt_sub_left (show q < n from HLt.out) (show q < q + 1 from Nat.lt_succ_self q)
     all_goals
      go_wp2_with fail
      go_roundw
      case rel => exact ⟨q + 1, _, by have := HLt.out; omega, by go_num, HSb⟩
      case measure => exact Nat.sub_lt_sub_left (show q < n from HLt.out) (show q < q + 1 from Nat.lt_succ_self q)
  ·obtain rfl : q = n := by omega
   have HOf : Aside0 (∃ fs', fs'.length = q ∧ In24 fs' ∧ Kd.S k46 46 wr base ok (.slice A0 q c0) fs' ∧ Below base w wr ∧ Kept w wr ok) := ⟨fs', HO'.out.len, HO'.out.fit, Kd.S_mono HO'.out.row (fun _ h => h.1), HO'.out.below, HO'.out.kept⟩
   have z1 : wr.cell? ⟨g1, 1, none⟩ = some (.slice A0 q c0) := (blk_cell HO'.out.blk 1).trans rfl
   go_wp2_with fail
   go_end0
   exact ⟨⟨_, rfl⟩, HOf.out⟩
def locC (n : Int) (xs : List S50) : Int := xs.foldl (fun n x => if x.f0 = 6 then wrap64 (n + 1) else n) n
def locP (n : Int) (fs : List S46) : Int := fs.foldl (fun n f => locC (wrap64 (n + f.f2)) f.f3) n
theorem rdx50 (xs : List S50) (j : Nat) (h : j < xs.length) : rd_T50 xs (j : Int) = xs[j] := by unfold rd_T50; rw [Int.toNat_natCast, List.getD_eq_getElem?_getD, List.getElem?_eq_getElem h]; rfl
theorem rdx46 (xs : List S46) (j : Nat) (h : j < xs.length) : rd_T46 xs (j : Int) = xs[j] := by unfold rd_T46; rw [Int.toNat_natCast, List.getD_eq_getElem?_getD, List.getElem?_eq_getElem h]; rfl
theorem wrap_succ (j : Nat) (h : j < 9223372036854775807) : wrap64 ((j : Int) + 1) = ((j + 1 : Nat) : Int) := (wrap_in (x := (j : Int) + 1) (by omega) (by omega)).trans (by omega)
theorem cl1 (fs : List S46) (N i : Int) (xs : List S50) (r : Int → Int) (hl : xs.length < 9223372036854775807) (hr : ∀ n, Ev (fun k => code_Locations.l0 k n fs N (wrap64 (i + 1))) (r n)) :
  ∀ (d j : Nat) (n : Int), xs.length - j = d → j ≤ xs.length → Ev (fun k => code_Locations.l1 k n fs N i xs (xs.length : Int) (j : Int)) (r (locC n (xs.drop j))) := by
 intro d
 induction d with
 | zero =>
  intro j n hd hj
  refine Ev.step (fun k => by rw [code_Locations.l1, if_neg (by omega)]) ?_
  rw [List.drop_eq_nil_of_le (by omega)]
  exact hr n
 | succ d ih =>
  intro j n hd hj
  have hx : j < xs.length := by omega
  have hA : (j : Int) < xs.length := by omega
  have hB : (0 : Int) ≤ j := by omega
  have hw := Aside0.mk (wrap_succ j (by omega))
  rw [List.drop_eq_getElem_cons hx]
  by_cases h6 : xs[j].f0 = 6
  ·refine Ev.step (fun k => by rw [code_Locations.l1, if_pos hA, if_pos hB, if_pos hA, rdx50 xs j hx, if_pos h6, hw.out]) ?_
   have h2 := ih (j + 1) (wrap64 (n + 1)) (by omega) (by omega)
   have e : locC n (xs[j] :: xs.drop (j + 1)) = locC (wrap64 (n + 1)) (xs.drop (j + 1)) := by unfold locC; rw [List.foldl_cons, if_pos h6]
   rw [e]
   exact h2
  ·refine Ev.step (fun k => by rw [code_Locations.l1, if_pos hA, if_pos hB, if_pos hA, rdx50 xs j hx, if_neg h6, hw.out]) ?_
   have h2 := ih (j + 1) n (by omega) (by omega)
   have e : locC n (xs[j] :: xs.drop (j + 1)) = locC n (xs.drop (j + 1)) := by unfold locC; rw [List.foldl_cons, if_neg h6]
   rw [e]
   exact h2
theorem cl0 (fs : List S46) (hl : fs.length < 9223372036854775807) (hf : ∀ f ∈ fs, f.f3.length < 9223372036854775807) :
  ∀ (d i : Nat) (n : Int), fs.length - i = d → i ≤ fs.length → Ev (fun k => code_Locations.l0 k n fs (fs.length : Int) (i : Int)) (locP n (fs.drop i)) := by
 intro d
 induction d with
 | zero =>
  intro i n hd hi
  refine Ev.step (f := fun _ => some n) (fun k => by rw [code_Locations.l0, if_neg (by omega)]) ?_
  rw [List.drop_eq_nil_of_le (by omega)]
  exact Ev.now _
 | succ d ih =>
  intro i n hd hi
  have hx : i < fs.length := by omega
  have hA : (i : Int) < fs.length := by omega
  have hB : (0 : Int) ≤ i := by omega
  have hw := Aside0.mk (wrap_succ i (by omega))
  refine Ev.step (fun k => by rw [code_Locations.l0, if_pos hA, if_pos hB, if_pos hA, rdx46 fs i hx]) ?_
  rw [List.drop_eq_getElem_cons hx]
  have h2 := cl1 fs (fs.length : Int) (i : Int) fs[i].f3 (fun n => locP n (fs.drop (i + 1))) (hf _ (List.getElem_mem hx)) (fun n => by rw [hw.out]; exact ih (i + 1) n (by omega) (by omega)) fs[i].f3.length 0 (wrap64 (n + fs[i].f2)) rfl (Nat.zero_le _)
  rw [List.drop_zero] at h2
  exact h2
theorem rl1 (fs : List S46) (G : Int) (i : Nat) (hi : i < fs.length) (r : Int → Int) (hl : fs[i].f3.length < 9223372036854775807) (hr : ∀ n, Ev (fun k => fugueref01_Locations.l0 k n (wrap64 ((i : Int) + 1)) G fs) (r n)) :
  ∀ (d j : Nat) (n : Int), fs[i].f3.length - j = d → j ≤ fs[i].f3.length → Ev (fun k => fugueref01_Locations.l1 k n (i : Int) (j : Int) G fs) (r (locC n (fs[i].f3.drop j))) := by
 have hA : (i : Int) < fs.length := by omega
 have hB : (0 : Int) ≤ i := by omega
 intro d
 induction d with
 | zero =>
  intro j n hd hj
  refine Ev.step (fun k => by rw [fugueref01_Locations.l1, if_pos hB, if_pos hA, rdx46 fs i hi, if_neg (by omega)]) ?_
  rw [List.drop_eq_nil_of_le (by omega)]
  exact hr n
 | succ d ih =>
  intro j n hd hj
  have hx : j < fs[i].f3.length := by omega
  have hC : (j : Int) < fs[i].f3.length := by omega
  have hD : (0 : Int) ≤ j := by omega
  have hw := Aside0.mk (wrap_succ j (by omega))
  rw [List.drop_eq_getElem_cons hx]
  by_cases h6 : fs[i].f3[j].f0 = 6
  ·refine Ev.step (fun k => by rw [fugueref01_Locations.l1, if_pos hB, if_pos hA, rdx46 fs i hi, if_pos hC, if_pos hD, rdx50 _ j hx, if_pos h6, hw.out]) ?_
   have h2 := ih (j + 1) (wrap64 (n + 1)) (by omega) (by omega)
   have e : locC n (fs[i].f3[j] :: fs[i].f3.drop (j + 1)) = locC (wrap64 (n + 1)) (fs[i].f3.drop (j + 1)) := by unfold locC; rw [List.foldl_cons, if_pos h6]
   rw [e]
   exact h2
  ·refine Ev.step (fun k => by rw [fugueref01_Locations.l1, if_pos hB, if_pos hA, rdx46 fs i hi, if_pos hC, if_pos hD, rdx50 _ j hx, if_neg h6, hw.out]) ?_
   have h2 := ih (j + 1) n (by omega) (by omega)
   have e : locC n (fs[i].f3[j] :: fs[i].f3.drop (j + 1)) = locC n (fs[i].f3.drop (j + 1)) := by unfold locC; rw [List.foldl_cons, if_neg h6]
   rw [e]
   exact h2
theorem rl0 (fs : List S46) (G : Int) (hl : fs.length < 9223372036854775807) (hf : ∀ f ∈ fs, f.f3.length < 9223372036854775807) :
  ∀ (d i : Nat) (n : Int), fs.length - i = d → i ≤ fs.length → Ev (fun k => fugueref01_Locations.l0 k n (i : Int) G fs) (locP n (fs.drop i)) := by
 intro d
 induction d with
 | zero =>
  intro i n hd hi
  refine Ev.step (f := fun _ => some n) (fun k => by rw [fugueref01_Locations.l0, if_neg (by omega)]) ?_
  rw [List.drop_eq_nil_of_le (by omega)]
  exact Ev.now _
 | succ d ih =>
  intro i n hd hi
  have hx : i < fs.length := by omega
  have hA : (i : Int) < fs.length := by omega
  have hB : (0 : Int) ≤ i := by omega
  have hw := Aside0.mk (wrap_succ i (by omega))
  refine Ev.step (fun k => by rw [fugueref01_Locations.l0, if_pos hA, if_pos hB, rdx46 fs i hx]) ?_
  rw [List.drop_eq_getElem_cons hx]
  have h2 := rl1 fs G i hx (fun n => locP n (fs.drop (i + 1))) (hf _ (List.getElem_mem hx)) (fun n => by rw [hw.out]; exact ih (i + 1) n (by omega) (by omega)) fs[i].f3.length 0 (wrap64 (n + fs[i].f2)) rfl (Nat.zero_le _)
  rw [List.drop_zero] at h2
  exact h2
def locOut (G : Int) (fs : List S46) : Int := if firstE G fs = 0 then locP 1 fs else 0
theorem cloc_ev (G : Int) (fs : List S46) (h : In24 fs) : Ev (fun k => code_Locations.f k G fs) (locOut G fs) := by
 unfold code_Locations.f code_first.f locOut
 simp only [Option.bind_some]
 by_cases h0 : firstE G fs = 0
 ·simp only [if_pos h0]
  simpa using cl0 fs (by have := h.1; omega) (fun f hf => by have := (h.2 f hf).1; omega) fs.length 0 1 rfl (Nat.zero_le _)
 ·simp only [if_neg h0]
  exact Ev.now _
theorem rloc_ev (G : Int) (fs : List S46) (h : In24 fs) : Ev (fun k => fugueref01_Locations.f k G fs) (locOut G fs) := by
 unfold fugueref01_Locations.f fugueref01_Check.f locOut
 simp only [Option.bind_some]
 by_cases h0 : firstE G fs = 0
 ·simp only [if_pos h0]
  simpa using rl0 fs G (by have := h.1; omega) (fun f hf => by have := (h.2 f hf).1; omega) fs.length 0 1 rfl (Nat.zero_le _)
 ·simp only [if_neg h0]
  exact Ev.now _
theorem copyints_ev (xs : List Int) (hl : xs.length ≤ 17592186044416) : Ev (fun k => fugueref00_CopyInts.f k xs) xs := by
 have gen : ∀ (d i : Nat), xs.length - i = d → i ≤ xs.length → Ev (fun k => fugueref00_CopyInts.l0 k xs (xs.take i) (i : Int)) xs := by
  intro d
  induction d with
  | zero =>
   intro i hd hi
   refine Ev.step (f := fun _ => some xs) (fun k => by rw [fugueref00_CopyInts.l0, if_neg (by omega), List.take_of_length_le (by omega)]) (Ev.now _)
  | succ d ih =>
   intro i hd hi
   have hx : i < xs.length := by omega
   have hA : (i : Int) < xs.length := by omega
   have hB : (0 : Int) ≤ i := by omega
   have hC : (xs.take i).length < 17592186044416 := by rw [List.length_take]; omega
   have hw := Aside0.mk (wrap_succ i (by omega))
   refine Ev.step (fun k => ?_) (ih (i + 1) (by omega) (by omega))
   rw [fugueref00_CopyInts.l0, if_pos hA, if_pos hB, if_pos hC, hw.out, rd_get xs i hx, List.take_succ_eq_append_getElem hx]
 exact gen xs.length 0 (by omega) (by omega)
theorem copyinstr_ev (x : S50) (h : In50 x) : Ev (fun k => fugueref00_CopyInstr.f k x.f0 x.f1 x.f2 x.f3 x.f4 x.f5 x.f6) (x.f0, x.f1, x.f2, x.f3, x.f4, x.f5, x.f6) := by
 unfold fugueref00_CopyInstr.f
 refine Ev.bind (copyints_ev x.f5 h.1) ?_
 refine Ev.bind (copyints_ev x.f6 h.2) ?_
 exact Ev.now _
theorem copycode_ev (xs : List S50) (hl : xs.length ≤ 1599289640401) (hf : ∀ x ∈ xs, In50 x) : Ev (fun k => fugueref00_CopyCode.f k xs) xs := by
 have gen : ∀ (d i : Nat), xs.length - i = d → i ≤ xs.length → Ev (fun k => fugueref00_CopyCode.l0 k xs (xs.take i) (i : Int)) xs := by
  intro d
  induction d with
  | zero =>
   intro i hd hi
   refine Ev.step (f := fun _ => some xs) (fun k => by rw [fugueref00_CopyCode.l0, if_neg (by omega), List.take_of_length_le (by omega)]) (Ev.now _)
  | succ d ih =>
   intro i hd hi
   have hx : i < xs.length := by omega
   have hA : (i : Int) < xs.length := by omega
   have hB : (0 : Int) ≤ i := by omega
   have hC : (xs.take i).length < 1599289640401 := by rw [List.length_take]; omega
   have hw := Aside0.mk (wrap_succ i (by omega))
   refine Ev.step (f := fun k => (fugueref00_CopyInstr.f k xs[i].f0 xs[i].f1 xs[i].f2 xs[i].f3 xs[i].f4 xs[i].f5 xs[i].f6).bind fun t => fugueref00_CopyCode.l0 k xs (xs.take i ++ [⟨t.1, t.2.1, t.2.2.1, t.2.2.2.1, t.2.2.2.2.1, t.2.2.2.2.2.1, t.2.2.2.2.2.2⟩]) ((i + 1 : Nat) : Int)) (fun k => ?_) ?_
   ·rw [fugueref00_CopyCode.l0, if_pos hA, if_pos hB, hw.out, rdx50 xs i hx]
    simp only [if_pos hC]
   ·refine Ev.bind (copyinstr_ev xs[i] (hf _ (List.getElem_mem hx))) ?_
    have e := (List.take_succ_eq_append_getElem hx).symm
    have h2 := ih (i + 1) (by omega) (by omega)
    rw [← e] at h2
    exact h2
 exact gen xs.length 0 (by omega) (by omega)
theorem copyfuncs_ev (fs : List S46) (h : In24 fs) : Ev (fun k => fugueref00_CopyFuncs.f k fs) fs := by
 have gen : ∀ (d i : Nat), fs.length - i = d → i ≤ fs.length → Ev (fun k => fugueref00_CopyFuncs.l0 k fs (fs.take i) (i : Int)) fs := by
  intro d
  induction d with
  | zero =>
   intro i hd hi
   refine Ev.step (f := fun _ => some fs) (fun k => by rw [fugueref00_CopyFuncs.l0, if_neg (by omega), List.take_of_length_le (by omega)]) (Ev.now _)
  | succ d ih =>
   intro i hd hi
   have hx : i < fs.length := by omega
   have hA : (i : Int) < fs.length := by omega
   have hB : (0 : Int) ≤ i := by omega
   have hC : (fs.take i).length < 2932031007402 := by rw [List.length_take]; have := h.1; omega
   have hw := Aside0.mk (wrap_succ i (by have := h.1; omega))
   refine Ev.step (f := fun k => (fugueref00_CopyFunc.f k fs[i].f0 fs[i].f1 fs[i].f2 fs[i].f3).bind fun t => fugueref00_CopyFuncs.l0 k fs (fs.take i ++ [⟨t.1, t.2.1, t.2.2.1, t.2.2.2⟩]) ((i + 1 : Nat) : Int)) (fun k => ?_) ?_
   ·rw [fugueref00_CopyFuncs.l0, if_pos hA, if_pos hB, hw.out, rdx46 fs i hx]
    simp only [if_pos hC]
   ·have hi := h.2 _ (List.getElem_mem hx)
    have h1 : Ev (fun k => fugueref00_CopyFunc.f k fs[i].f0 fs[i].f1 fs[i].f2 fs[i].f3) (fs[i].f0, fs[i].f1, fs[i].f2, fs[i].f3) := by
     unfold fugueref00_CopyFunc.f
     exact Ev.bind (copycode_ev fs[i].f3 hi.1 hi.2) (Ev.now _)
    refine Ev.bind h1 ?_
    have e := (List.take_succ_eq_append_getElem hx).symm
    have h2 := ih (i + 1) (by omega) (by omega)
    rw [← e] at h2
    exact h2
 exact gen fs.length 0 (by omega) (by omega)
theorem copyprog_ev (G : Int) (fs : List S46) (h : In24 fs) : Ev (fun k => fugueref00_CopyProgram.f k G fs) (G, fs) := by
 unfold fugueref00_CopyProgram.f
 exact Ev.bind (copyfuncs_ev fs h) (Ev.now _)
theorem e_at {α β : Type} {d : Kd α} {d2 : Kd β} {hz : d2.sz = d.sz} {w : World} {A : Option Addr} {ys : List (α ⊕ β)} (h : (either d d2 hz).C w A ys.length ys) (q : Nat) {y : α ⊕ β} (hq : ys[q]? = some y) : ∃ ad c, A = some ad ∧ c.length = d.sz ∧ (either d d2 hz).K w y c ∧ ∀ j u, c[j]? = some u → w.cell? (ad.add (q * d.sz + j)) = some u := by
 have hl := (List.getElem?_eq_some_iff.1 hq).1
 obtain ⟨ad, c, e, hcl, hK, hc⟩ := Kd.C_get h y (q : Int) (Int.natCast_nonneg q) (Int.ofNat_lt.2 hl)
 rw [Int.toNat_natCast, List.getD_eq_getElem?_getD, hq] at hK
 exact ⟨ad, c, e, hcl, hK, fun j u hu => by have := hc j u hu; rwa [Int.toNat_natCast] at this⟩
theorem wI_open {w : World} {xs : List Int} {cs : List Value} (h : wI.K w xs cs) : ∃ A c, cs = [.slice A xs.length c] ∧ (xs ++ marksI xs.length).length ≤ c ∧ (Kd.int .i64).C w A (xs ++ marksI xs.length).length (xs ++ marksI xs.length) := by
 obtain ⟨A, c, e, h1, h2, h3⟩ := h
 exact ⟨A, c, e, h2, h3⟩
theorem k50w_open {w : World} {x : S50} {cs : List Value} (h : k50w.K w x cs) : ∃ A5 c5 A6 c6, cs = [.int .i64 x.f0, .int .i64 x.f1, .int .i64 x.f2, .int .i64 x.f3, .int .i64 x.f4, .slice A5 x.f5.length c5, .slice A6 x.f6.length c6] ∧ ((x.f5 ++ marksI x.f5.length).length ≤ c5 ∧ (Kd.int .i64).C w A5 (x.f5 ++ marksI x.f5.length).length (x.f5 ++ marksI x.f5.length)) ∧ ((x.f6 ++ marksI x.f6.length).length ≤ c6 ∧ (Kd.int .i64).C w A6 (x.f6 ++ marksI x.f6.length).length (x.f6 ++ marksI x.f6.length)) := by
 obtain ⟨_, _, rfl, rfl, _, _, rfl, rfl, _, _, rfl, rfl, _, _, rfl, rfl, _, _, rfl, rfl, _, _, rfl, h5, h6⟩ := h
 obtain ⟨A5, c5, rfl, l5, g5⟩ := wI_open h5
 obtain ⟨A6, c6, rfl, l6, g6⟩ := wI_open h6
 exact ⟨A5, c5, A6, c6, rfl, ⟨l5, g5⟩, ⟨l6, g6⟩⟩
theorem k46w_open {w : World} {x : S46} {cs : List Value} (h : k46w.K w x cs) : ∃ A3 c3, cs = [.int .i64 x.f0, .int .i64 x.f1, .int .i64 x.f2, .slice A3 x.f3.length c3] ∧ (marked mark50 x.f3).length ≤ c3 ∧ e50.C w A3 (marked mark50 x.f3).length (marked mark50 x.f3) := by
 obtain ⟨_, _, rfl, rfl, _, _, rfl, rfl, _, _, rfl, rfl, A3, c3, rfl, _, l3, g3⟩ := h
 exact ⟨A3, c3, rfl, l3, g3⟩
set_option maxHeartbeats 8000000 in
set_option maxRecDepth 100000 in
theorem sparecode_any (A0 : Option Addr) (c0 n : Nat) (xs : List S50) (w : World) (hn : n = xs.length) (hr : e50.C w A0 (marked mark50 xs).length (marked mark50 xs)) (hc : (marked mark50 xs).length ≤ c0) (hl : xs.length ≤ 1600000000000) (hfit : ∀ (q : Nat) (h : q < xs.length), xs[q].f5.length ≤ 17592186044416 ∧ xs[q].f6.length ≤ 17592186044416) :
  Calls Tryd.prog 33 #[.slice A0 n c0] w fun e w' => e = .returned (.bool true) ∧ w' = w := by
 obtain ⟨m, hm⟩ : ∃ m, m = n + 64 := ⟨_, rfl⟩
 have hlen : (marked mark50 xs).length = m := by rw [marked_len]; omega
 have hw : wrap64 ((n : Int) + 64) = (m : Int) := by rw [wrap_in (by omega) (by omega)]; omega
 have HL : Aside0 (n = xs.length ∧ m = n + 64 ∧ n ≤ 1600000000000) := ⟨hn, hm, by omega⟩
 have HR := Aside0.mk hr
 have HF := Aside0.mk hfit
 have hm0 : n ≤ 9223372036854775807 := by omega
 have hm1 : m ≤ 9223372036854775807 := by omega
 obtain ⟨i0, hi0, _, hsz, _⟩ := info_parts info50
 have hcut := cut_cap (P := Tryd.prog) 44 50 .i64 Tryd.underlying44 hi0 A0 n c0 (m : Int) (Int.natCast_nonneg m) (by omega)
 rw [Int.toNat_natCast] at hcut
 have HCut := Aside0.mk hcut
 clear hr hc hl hfit hm hn hlen hi0 hsz hcut
 go_enter Tryd.func33, Tryd.ntmps33
 have hcut := HCut.out
 go_wp2_with fail
 clear hcut hw
 go_loopw [4] (fun v4 w' => ∃ q : Nat, q ≤ m ∧ v4 = .int .i64 (q : Int) ∧ w' = w) (fun i _ => m - (intOf i).toNat)
 case atStart => exact ⟨0, Nat.zero_le _, rfl, rfl⟩
 case round =>
  obtain ⟨q, hq, rfl, rfl⟩ := hrel
  by_cases hlt : q < m
  ·have hwp : wrap64 ((q : Int) + 1) = (q : Int) + 1 := wrap_in (by omega) (by have := HL.out; omega)
   by_cases hlx : q < n
   ·have hqx : q < xs.length := by have := HL.out; omega
    obtain ⟨ad, c, e0, hcl, hK, hcc⟩ := e_at HR.out q (marked_at mark50 xs q hqx)
    cases e0
    obtain ⟨x, hx⟩ : ∃ x, x = xs[q] := ⟨_, rfl⟩
    have hf := HF.out q hqx
    rw [← hx] at hK hf
    obtain ⟨A5, c5, A6, c6, rfl, ⟨l5, g5⟩, l6, g6⟩ := k50w_open (hK.1 x rfl)
    have h5 : wr.cell? ⟨(ad.add (q * 7)).block, (ad.add (q * 7)).off + 5, none⟩ = some (.slice A5 x.f5.length c5) := by rw [← add_field _ _ 5 (by omega)]; exact hcc 5 _ rfl
    have h6 : wr.cell? ⟨(ad.add (q * 7)).block, (ad.add (q * 7)).off + 6, none⟩ = some (.slice A6 x.f6.length c6) := by rw [← add_field _ _ 6 (by omega)]; exact hcc 6 _ rfl
    have G5 := Aside0.mk g5
    have G6 := Aside0.mk g6
    have L5 := Aside0.mk l5
    have L6 := Aside0.mk l6
    have F5 := Aside0.mk hf.1
    have F6 := Aside0.mk hf.2
    have HLt := Aside0.mk hlt
    have HX := Aside0.mk hx
    have hm5 : x.f5.length ≤ 9223372036854775807 := by omega
    have hm6 : x.f6.length ≤ 9223372036854775807 := by omega
    clear hcl hK hcc hf g5 g6 l5 l6 hx
    go_wp2_with (first | (go_at_call 61; (with_reducible refine (spareI A5 c5 x.f5.length x.f5 _ rfl F5.out G5.out L5.out).mono ?_); rintro e w2 ⟨rfl, rfl⟩) | (go_at_call 61; (with_reducible refine (spareI A6 c6 x.f6.length x.f6 _ rfl F6.out G6.out L6.out).mono ?_); rintro e w2 ⟨rfl, rfl⟩))
    go_roundw
    case rel => exact ⟨q + 1, by have := HLt.out; omega, by go_num, by first | trivial | rfl⟩
    case measure => exact Nat.sub_lt_sub_left (show q < m from HLt.out) (show q < q + 1 from Nat.lt_succ_self q)
   ·obtain ⟨ad, c, e0, hcl, hK, hcc⟩ := e_at HR.out q (marked_past mark50 xs q (by have := HL.out; omega) (by have := HL.out; omega))
    cases e0
    obtain ⟨rfl, _⟩ := hK.2 mark50 rfl
    have h0 : wr.cell? (ad.add (q * 7)) = some (.int .i64 (-78)) := hcc 0 _ rfl
    have h4 : wr.cell? ⟨(ad.add (q * 7)).block, (ad.add (q * 7)).off + 4, none⟩ = some (.int .i64 0) := by rw [← add_field _ _ 4 (by omega)]; exact hcc 4 _ rfl
    have HLt := Aside0.mk hlt
    clear hcl hK hcc
    go_wp2_with fail
    go_roundw
    case rel => exact ⟨q + 1, by have := HLt.out; omega, by go_num, by first | trivial | rfl⟩
    case measure => exact Nat.sub_lt_sub_left (show q < m from HLt.out) (show q < q + 1 from Nat.lt_succ_self q)
  ·obtain rfl : q = m := by omega
   go_wp2_with fail
   go_ret
   exact ⟨rfl, rfl⟩
set_option maxHeartbeats 8000000 in
set_option maxRecDepth 100000 in
theorem spareprogram_any (G : Int) (A0 : Option Addr) (c0 n : Nat) (fs : List S46) (w : World) (hn : n = fs.length) (hr : e46.C w A0 (marked mark46 fs).length (marked mark46 fs)) (hc : (marked mark46 fs).length ≤ c0) (hl : fs.length ≤ 3000000000000) (hfit : ∀ (q : Nat) (h : q < fs.length), fs[q].f3.length ≤ 1600000000000 ∧ ∀ (j : Nat) (h2 : j < fs[q].f3.length), fs[q].f3[j].f5.length ≤ 17592186044416 ∧ fs[q].f3[j].f6.length ≤ 17592186044416) :
  Calls Tryd.prog 15 #[.agg #[.int .i64 G, .slice A0 n c0]] w fun e w' => e = .returned (.bool true) ∧ Below w.heap.size w w' := by
 obtain ⟨m, hm⟩ : ∃ m, m = n + 64 := ⟨_, rfl⟩
 have hlen : (marked mark46 fs).length = m := by rw [marked_len]; omega
 have hw : wrap64 ((n : Int) + 64) = (m : Int) := by rw [wrap_in (by omega) (by omega)]; omega
 have HL : Aside0 (n = fs.length ∧ m = n + 64 ∧ n ≤ 3000000000000) := ⟨hn, hm, by omega⟩
 have HR0 := Aside0.mk hr
 have HF := Aside0.mk hfit
 have HB := Aside0.mk (Below.refl w.heap.size w)
 have hm0 : n ≤ 9223372036854775807 := by omega
 have hm1 : m ≤ 9223372036854775807 := by omega
 obtain ⟨i0, hi0, _, hsz, _⟩ := info_parts info46
 have hcut := cut_cap (P := Tryd.prog) 22 46 .i64 Tryd.underlying22 hi0 A0 n c0 (m : Int) (Int.natCast_nonneg m) (by omega)
 rw [Int.toNat_natCast] at hcut
 have HCut := Aside0.mk hcut
 clear hr hc hl hfit hm hn hlen hi0 hsz hcut
 go_enter Tryd.func15, Tryd.ntmps15
 have hcut := HCut.out
 go_wp2_with ((with_reducible refine gate_dst (N := 1) rfl ?_); refine box_event ?hg (N := 1) ?hd (cs := #[.int .i64 G, .slice A0 n c0]) (t := 24) ?hr ?_; (case hd => rfl); (case hg => rfl); (case hr => first | (go_simp; done) | (go_simp; rfl)); intro g1 hg w1 hbox hb; have G1 : Aside0 (w.heap.size ≤ g1) := ⟨by have := HB.out.size; omega⟩; replace HB := Aside0.mk (HB.out.trans (hb.mono HB.out.size)); have BK1 := Aside0.mk hbox; clear hg hbox hb; have z1 : w1.cell? ⟨g1, 1, none⟩ = some (.slice A0 n c0) := (blk_cell BK1.out 1).trans rfl)
 clear hcut hw
 have HR := Aside0.mk (Kd.C_below HR0.out HB.out)
 go_loopw [4] (fun v4 w' => ∃ q : Nat, q ≤ m ∧ v4 = .int .i64 (q : Int) ∧ w' = w1) (fun i _ => m - (intOf i).toNat)
 case atStart => exact ⟨0, Nat.zero_le _, rfl, rfl⟩
 case round =>
  obtain ⟨q, hq, rfl, rfl⟩ := hrel
  by_cases hlt : q < m
  ·have hwp : wrap64 ((q : Int) + 1) = (q : Int) + 1 := wrap_in (by omega) (by have := HL.out; omega)
   by_cases hlx : q < n
   ·have hqx : q < fs.length := by have := HL.out; omega
    obtain ⟨ad, c, e0, hcl, hK, hcc⟩ := e_at HR.out q (marked_at mark46 fs q hqx)
    cases e0
    obtain ⟨x, hx⟩ : ∃ x, x = fs[q] := ⟨_, rfl⟩
    have hf := HF.out q hqx
    rw [← hx] at hK hf
    obtain ⟨A3, c3, rfl, l3, g3⟩ := k46w_open (hK.1 x rfl)
    have h3 : wr.cell? ⟨(ad.add (q * 4)).block, (ad.add (q * 4)).off + 3, none⟩ = some (.slice A3 x.f3.length c3) := by rw [← add_field _ _ 3 (by omega)]; exact hcc 3 _ rfl
    have G3 := Aside0.mk g3
    have L3 := Aside0.mk l3
    have F3 := Aside0.mk hf
    have HLt := Aside0.mk hlt
    have HX := Aside0.mk hx
    have hge : ¬ n ≤ q := by omega
    have hm3 : x.f3.length ≤ 9223372036854775807 := by have := hf.1; omega
    clear hcl hK hcc hf g3 l3 hx
    go_wp2_with (go_at_call 33; refine (sparecode_any A3 c3 x.f3.length x.f3 _ rfl G3.out L3.out F3.out.1 F3.out.2).mono ?_; rintro e w2 ⟨rfl, rfl⟩)
    go_roundw
    case rel => exact ⟨q + 1, by have := HLt.out; omega, by go_num, by first | trivial | rfl⟩
    case measure => exact Nat.sub_lt_sub_left (show q < m from HLt.out) (show q < q + 1 from Nat.lt_succ_self q)
   ·have hge : n ≤ q := by omega
    obtain ⟨ad, c, e0, hcl, hK, hcc⟩ := e_at HR.out q (marked_past mark46 fs q (by have := HL.out; omega) (by have := HL.out; omega))
    cases e0
    obtain ⟨rfl, _⟩ := hK.2 mark46 rfl
    have h2 : wr.cell? ⟨(ad.add (q * 4)).block, (ad.add (q * 4)).off + 2, none⟩ = some (.int .i64 (-77)) := by rw [← add_field _ _ 2 (by omega)]; exact hcc 2 _ rfl
    have h3 : wr.cell? ⟨(ad.add (q * 4)).block, (ad.add (q * 4)).off + 3, none⟩ = some (.slice none 0 0) := by rw [← add_field _ _ 3 (by omega)]; exact hcc 3 _ rfl
    have HLt := Aside0.mk hlt
    clear hcl hK hcc
    go_wp2_with fail
    go_roundw
    case rel => exact ⟨q + 1, by have := HLt.out; omega, by go_num, by first | trivial | rfl⟩
    case measure => exact Nat.sub_lt_sub_left (show q < m from HLt.out) (show q < q + 1 from Nat.lt_succ_self q)
  ·obtain rfl : q = m := by omega
   go_wp2_with fail
   go_ret
   exact ⟨rfl, HB.out⟩
theorem works_ev : Ev (fun k => fuguelaw01_works.f k) true :=
 Ev.of (fun k => fuguelaw01_works.mono k) (show fuguelaw01_works.f 12 = some true by decide +kernel)
theorem in_of_ok {fs : List S46} (h : Ok22 fs) : In24 fs := by
 obtain ⟨h1, h2⟩ := h
 have e46 : Tryd.prog.bytesOf 46 = 48 := by kernel_rfl
 have e50 : Tryd.prog.bytesOf 50 = 88 := by kernel_rfl
 have e3 : Tryd.prog.bytesOf 3 = 8 := by kernel_rfl
 rw [e46] at h1
 refine ⟨by omega, fun f hf => ?_⟩
 obtain ⟨_, _, _, h3, h4⟩ := h2 f hf
 rw [e50] at h3
 refine ⟨by omega, fun x hx => ?_⟩
 obtain ⟨_, _, _, _, _, ⟨h5, _⟩, ⟨h6, _⟩⟩ := h4 x hx
 rw [e3] at h5 h6
 exact ⟨by omega, by omega⟩
theorem fit_of_in {fs : List S46} (h : In24 fs) : fs.length ≤ 9223372036854775807 ∧ ∀ f ∈ fs, Fit46 f :=
 ⟨by have := h.1; omega, fun f hf => ⟨by have := (h.2 f hf).1; omega, fun x hx => ⟨by have := ((h.2 f hf).2 x hx).1; omega, by have := ((h.2 f hf).2 x hx).2; omega⟩⟩⟩
theorem fits_of_in {fs : List S46} (h : In24 fs) : ∀ (q : Nat) (hq : q < fs.length), fs[q].f3.length ≤ 1600000000000 ∧ ∀ (j : Nat) (h2 : j < fs[q].f3.length), fs[q].f3[j].f5.length ≤ 17592186044416 ∧ fs[q].f3[j].f6.length ≤ 17592186044416 :=
 fun q hq => ⟨by have := (h.2 _ (List.getElem_mem hq)).1; omega, fun j h2 => (h.2 _ (List.getElem_mem hq)).2 _ (List.getElem_mem h2)⟩
section
variable {G : Int} {A A2 : Option Addr} {c c2 n : Nat} {fs : List S46} {w : World}
theorem c_works (hT : Tab w) : Calls Tryd.prog 10 #[] w fun e w' => e = .returned (.bool true) ∧ Below w.heap.size w w' := by
 obtain ⟨k, hk⟩ := works_ev.rounds
 exact fuguelaw01_works.calls k true w hk hT
theorem c_check (hn : n = fs.length) (hr : Kd.C k46 w A n fs) (hc : n ≤ c) : Calls Tryd.prog 12 #[.agg #[.int .i64 G, .slice A n c]] w fun e w' => e = .returned (.int .i64 (firstE G fs)) ∧ Below w.heap.size w w' := by
 subst hn
 exact code_Check.calls G A c fs _ w hr hc rfl
theorem c_loc (hi : In24 fs) (hn : n = fs.length) (hr : Kd.C k46 w A n fs) (hc : n ≤ c) : Calls Tryd.prog 13 #[.agg #[.int .i64 G, .slice A n c]] w fun e w' => e = .returned (.int .i64 (locOut G fs)) ∧ Below w.heap.size w w' := by
 subst hn
 obtain ⟨k, hk⟩ := (cloc_ev G fs hi).rounds
 exact code_Locations.calls k G A c fs _ w hr hc hk
theorem c_eq (hi : In24 fs) (hn : n = fs.length) (hr : Kd.C k46 w A n fs) (hc : n ≤ c) (hr2 : Kd.C k46 w A2 n fs) (hc2 : n ≤ c2) : Calls Tryd.prog 14 #[.agg #[.int .i64 G, .slice A n c], .agg #[.int .i64 G, .slice A2 n c2]] w fun e w' => e = .returned (.bool true) ∧ Below w.heap.size w w' := by
 subst hn
 have h := eqprog_ev G fs G fs (fit_of_in hi).1 (fit_of_in hi).2
 rw [decide_eq_true ⟨rfl, rfl⟩] at h
 obtain ⟨k, hk⟩ := h.rounds
 exact fugueref00_EqProgram.calls k G A c fs G A2 c2 fs true rfl w hr hc hr2 hc2 hk
theorem c_rcheck (hn : n = fs.length) (hr : Kd.C k46 w A n fs) (hc : n ≤ c) : Calls Tryd.prog 16 #[.agg #[.int .i64 G, .slice A n c]] w fun e w' => e = .returned (.int .i64 (firstE G fs)) ∧ Below w.heap.size w w' := by
 subst hn
 exact fugueref01_Check.calls G A c fs _ w hr hc rfl
theorem c_rloc (hi : In24 fs) (hn : n = fs.length) (hr : Kd.C k46 w A n fs) (hc : n ≤ c) : Calls Tryd.prog 17 #[.agg #[.int .i64 G, .slice A n c]] w fun e w' => e = .returned (.int .i64 (locOut G fs)) ∧ Below w.heap.size w w' := by
 subst hn
 obtain ⟨k, hk⟩ := (rloc_ev G fs hi).rounds
 exact fugueref01_Locations.calls k G A c fs _ w hr hc hk
theorem c_wide (hi : In24 fs) (hn : n = fs.length) (hr : Kd.C k46 w A n fs) (hc : n ≤ c) : Calls Tryd.prog 11 #[.agg #[.int .i64 G, .slice A n c]] w fun e w' => ∃ A c, e = .returned (.agg #[.int .i64 G, .slice A n c]) ∧ fSw w' w.heap.size (fun _ => True) (.slice A (marked mark46 fs).length c) (marked mark46 fs) ∧ Below w.heap.size w w' := by
 subst hn
 exact wideprogram_any G A c _ fs w rfl hr hc (by have := hi.1; omega) (fits_of_in hi)
theorem c_spare {base : Nat} {ok : Nat → Prop} (hi : In24 fs) (hn : n = fs.length) (hS : fSw w base ok (.slice A (marked mark46 fs).length c) (marked mark46 fs)) : Calls Tryd.prog 15 #[.agg #[.int .i64 G, .slice A n c]] w fun e w' => e = .returned (.bool true) ∧ Below w.heap.size w w' := by
 have h := Kd.S_reads' hS
 exact spareprogram_any G A c n fs w hn h.2.2 h.2.1 (by have := hi.1; omega) (fits_of_in hi)
theorem wide_reads {base : Nat} {ok : Nat → Prop} (hn : n = fs.length) (hS : fSw w base ok (.slice A (marked mark46 fs).length c) (marked mark46 fs)) : Kd.C k46 w A n fs ∧ n ≤ c := by
 subst hn
 have h := Kd.S_reads' hS
 exact ⟨wide_C46 h.2.2, by have := h.2.1; rw [marked_len] at this; omega⟩
theorem plain_reads {base : Nat} {ok : Nat → Prop} (hn : n = fs.length) (hS : Kd.S k46 46 w base ok (.slice A n c) fs) : Kd.C k46 w A n fs ∧ n ≤ c := by
 subst hn
 exact ⟨(Kd.S_reads' hS).2.2, (Kd.S_reads' hS).2.1⟩
theorem c_copy (hi : In24 fs) (hn : n = fs.length) (hr : Kd.C k46 w A n fs) (hc : n ≤ c) : Calls Tryd.prog 19 #[.agg #[.int .i64 G, .slice A n c]] w fun e w' => ∃ A c, e = .returned (.agg #[.int .i64 G, .slice A n c]) ∧ (Kd.C k46 w' A n fs ∧ n ≤ c) ∧ Below w.heap.size w w' := by
 subst hn
 obtain ⟨k, hk⟩ := (copyprog_ev G fs hi).rounds
 refine (fugueref00_CopyProgram.calls k G A c fs G fs w hr hc hk).mono ?_
 rintro e w' ⟨v, he, hR, hb⟩
 obtain ⟨A', c', rfl, hl, hC⟩ := Kd.R_reads hR
 exact ⟨A', c', he, ⟨hC, hl⟩, hb⟩
end
set_option maxHeartbeats 8000000 in
set_option maxRecDepth 100000 in
theorem checks_any {G : Int} {A0 : Option Addr} {c0 : Nat} {x0 : List S46} (W : World) (l0 : x0.length ≤ c0) (g0 : Kd.C k46 W A0 x0.length x0) (h0 : Ok22 x0) (hT : Tab W) :
  Calls Tryd.prog 3 #[.agg #[.int .i64 G, .slice A0 x0.length c0]] W fun e w' => e = .returned (.bool true) ∧ Below W.heap.size W w' := by
 obtain ⟨n, hn⟩ : ∃ n, n = x0.length := ⟨_, rfl⟩
 rw [← hn] at l0 g0 ⊢
 have HI := Aside0.mk (in_of_ok h0)
 have HN := Aside0.mk hn
 have HP := Aside0.mk g0
 have HC := Aside0.mk l0
 have HT := Aside0.mk hT
 have HB := Aside0.mk (Below.refl W.heap.size W)
 have hm0 : n ≤ 9223372036854775807 := by have := HI.out.1; omega
 clear hn l0 g0 h0 hT
 go_enter Tryd.func3, Tryd.ntmps3
 go_wp2_with (first | ((with_reducible refine gate_dst (N := 1) rfl ?_); refine box_event ?hg (N := 1) ?hd (cs := #[.int .i64 G, .slice A0 n c0]) (t := 24) ?hr ?_; (case hd => rfl); (case hg => rfl); (case hr => first | (go_simp; done) | (go_simp; rfl)); intro g1 hg w1 hbox hb; have G1 : Aside0 (W.heap.size ≤ g1) := ⟨by have := HB.out.size; omega⟩; replace HB := Aside0.mk (HB.out.trans (hb.mono HB.out.size)); have BK1 := Aside0.mk hbox; clear hg hbox hb; have z0 : w1.cell? ⟨g1, 0, none⟩ = some (.int .i64 G) := (blk_cell BK1.out 0).trans rfl; have z1 : w1.cell? ⟨g1, 1, none⟩ = some (.slice A0 n c0) := (blk_cell BK1.out 1).trans rfl) | (go_at_call 10; (with_reducible refine (c_works (Tab.below HT.out HB.out)).mono ?_); rintro e w2 ⟨rfl, hb⟩; replace HB := Aside0.mk (HB.out.trans (hb.mono HB.out.size)); replace BK1 := Aside0.mk (blk_below BK1.out hb); clear z0 z1; have z0 : w2.cell? ⟨g1, 0, none⟩ = some (.int .i64 G) := (blk_cell BK1.out 0).trans rfl; have z1 : w2.cell? ⟨g1, 1, none⟩ = some (.slice A0 n c0) := (blk_cell BK1.out 1).trans rfl; have HGl : Aside0 (g1 < w2.heap.size) := ⟨blk_lt BK1.out⟩; have HWl : Aside0 (W.heap.size ≤ w2.heap.size) := ⟨HB.out.size⟩; clear hb) | (go_at_call 11; (with_reducible refine (c_wide HI.out HN.out (Kd.C_below HP.out HB.out) HC.out).mono ?_); rintro e w3 ⟨A, c, rfl, hS, hb⟩; replace HB := Aside0.mk (HB.out.trans (hb.mono HB.out.size)); replace BK1 := Aside0.mk (blk_below BK1.out hb); have HXsz : Aside0 (w2.heap.size ≤ w3.heap.size) := ⟨hb.size⟩; have HX : Aside0 (fSw w3 w2.heap.size (fun k => k < w3.heap.size) (.slice A (marked mark46 x0).length c) (marked mark46 x0)) := ⟨Kd.S_mono (Kd.S_bound hS) (fun k hk => hk.2.2.1)⟩; clear hS hb; clear z0 z1) | ((with_reducible refine gate_dst (N := 4) rfl ?_); refine box_event ?hg (N := 4) ?hd (cs := #[.int .i64 0, .slice none 0 0]) (t := 24) ?hr ?_; (case hd => rfl); (case hg => rfl); (case hr => first | (go_simp; done) | (go_simp; rfl)); intro g4 hg w4 hbox hb; have Hg4 : Aside0 (w3.heap.size ≤ g4) := ⟨Nat.le_of_eq hg.symm⟩; have HX0s : Aside0 (w2.heap.size ≤ w3.heap.size) := ⟨HXsz.out⟩; have G4 : Aside0 (W.heap.size ≤ g4) := ⟨by have := HB.out.size; omega⟩; replace HB := Aside0.mk (HB.out.trans (hb.mono HB.out.size)); replace BK1 := Aside0.mk (blk_below BK1.out hb); replace HX := Aside0.mk (Kd.S_below HX.out hb); have BK4 := Aside0.mk hbox; clear hg hbox hb; have HNe : Aside0 (g1 < g4) := ⟨Nat.lt_of_lt_of_le HGl.out (Nat.le_trans HX0s.out Hg4.out)⟩) | ((with_reducible refine gate_ (.store 24 (.tmp 4) (.tmp 11)) rfl ?_); refine blk_store rfl rfl 24 (.tmp 4) (.tmp 11) rfl 24 (cur2 := #[.int .i64 G, .slice A n c]) _ [.int .i64 G, .slice A n c] rfl rfl rfl size24 (one2 _ _ _ _) BK4.out (Nat.le_refl 2) rfl ?_; intro w5 hk hg; have HB_ := Aside0.mk (HB.out.grown hg HB.out.size (fun k hk => by injection hk with hk; have := G4.out; omega)); have HX_ := Aside0.mk (Kd.S_grown HX.out hg (fun k hk e => by injection e with e; have := Hg4.out; omega)); have BK1_ := Aside0.mk ((hg.block g1 (blk_lt BK1.out) (fun e => by injection e with e; have := HNe.out; omega)).trans BK1.out); clear HB HX BK1 BK4; have HB := HB_; have HX := HX_; have BK1 := BK1_; have BK4 := Aside0.mk hk; clear HB_ HX_ BK1_ hk hg; have z0 : w5.cell? ⟨g1, 0, none⟩ = some (.int .i64 G) := (blk_cell BK1.out 0).trans rfl; have z1 : w5.cell? ⟨g1, 1, none⟩ = some (.slice A0 n c0) := (blk_cell BK1.out 1).trans rfl; have y0 : w5.cell? ⟨g4, 0, none⟩ = some (.int .i64 G) := (blk_cell BK4.out 0).trans rfl; have y1 : w5.cell? ⟨g4, 1, none⟩ = some (.slice A n c) := (blk_cell BK4.out 1).trans rfl) | (go_at_call 12; (with_reducible refine (c_check HN.out (wide_reads HN.out HX.out).1 (wide_reads HN.out HX.out).2).mono ?_); rintro e w6 ⟨rfl, hb⟩; replace HB := Aside0.mk (HB.out.trans (hb.mono HB.out.size)); replace BK1 := Aside0.mk (blk_below BK1.out hb); replace HX := Aside0.mk (Kd.S_below HX.out hb); replace BK4 := Aside0.mk (blk_below BK4.out hb); clear z0 z1 y0 y1; have z0 : w6.cell? ⟨g1, 0, none⟩ = some (.int .i64 G) := (blk_cell BK1.out 0).trans rfl; have z1 : w6.cell? ⟨g1, 1, none⟩ = some (.slice A0 n c0) := (blk_cell BK1.out 1).trans rfl; have y0 : w6.cell? ⟨g4, 0, none⟩ = some (.int .i64 G) := (blk_cell BK4.out 0).trans rfl; have y1 : w6.cell? ⟨g4, 1, none⟩ = some (.slice A n c) := (blk_cell BK4.out 1).trans rfl; clear hb) | (go_at_call 13; (with_reducible refine (c_loc HI.out HN.out (wide_reads HN.out HX.out).1 (wide_reads HN.out HX.out).2).mono ?_); rintro e w7 ⟨rfl, hb⟩; replace HB := Aside0.mk (HB.out.trans (hb.mono HB.out.size)); replace BK1 := Aside0.mk (blk_below BK1.out hb); replace HX := Aside0.mk (Kd.S_below HX.out hb); replace BK4 := Aside0.mk (blk_below BK4.out hb); clear z0 z1 y0 y1; have z0 : w7.cell? ⟨g1, 0, none⟩ = some (.int .i64 G) := (blk_cell BK1.out 0).trans rfl; have z1 : w7.cell? ⟨g1, 1, none⟩ = some (.slice A0 n c0) := (blk_cell BK1.out 1).trans rfl; have y0 : w7.cell? ⟨g4, 0, none⟩ = some (.int .i64 G) := (blk_cell BK4.out 0).trans rfl; have y1 : w7.cell? ⟨g4, 1, none⟩ = some (.slice A n c) := (blk_cell BK4.out 1).trans rfl; clear hb) | (go_at_call 14; (with_reducible refine (c_eq HI.out HN.out (wide_reads HN.out HX.out).1 (wide_reads HN.out HX.out).2 (Kd.C_below HP.out HB.out) HC.out).mono ?_); rintro e w8 ⟨rfl, hb⟩; replace HB := Aside0.mk (HB.out.trans (hb.mono HB.out.size)); replace BK1 := Aside0.mk (blk_below BK1.out hb); replace HX := Aside0.mk (Kd.S_below HX.out hb); replace BK4 := Aside0.mk (blk_below BK4.out hb); clear z0 z1 y0 y1; have z0 : w8.cell? ⟨g1, 0, none⟩ = some (.int .i64 G) := (blk_cell BK1.out 0).trans rfl; have z1 : w8.cell? ⟨g1, 1, none⟩ = some (.slice A0 n c0) := (blk_cell BK1.out 1).trans rfl; have y0 : w8.cell? ⟨g4, 0, none⟩ = some (.int .i64 G) := (blk_cell BK4.out 0).trans rfl; have y1 : w8.cell? ⟨g4, 1, none⟩ = some (.slice A n c) := (blk_cell BK4.out 1).trans rfl; clear hb) | (go_at_call 15; (with_reducible refine (c_spare HI.out HN.out HX.out).mono ?_); rintro e w9 ⟨rfl, hb⟩; replace HB := Aside0.mk (HB.out.trans (hb.mono HB.out.size)); replace BK1 := Aside0.mk (blk_below BK1.out hb); replace HX := Aside0.mk (Kd.S_below HX.out hb); replace BK4 := Aside0.mk (blk_below BK4.out hb); clear z0 z1 y0 y1; have z0 : w9.cell? ⟨g1, 0, none⟩ = some (.int .i64 G) := (blk_cell BK1.out 0).trans rfl; have z1 : w9.cell? ⟨g1, 1, none⟩ = some (.slice A0 n c0) := (blk_cell BK1.out 1).trans rfl; have y0 : w9.cell? ⟨g4, 0, none⟩ = some (.int .i64 G) := (blk_cell BK4.out 0).trans rfl; have y1 : w9.cell? ⟨g4, 1, none⟩ = some (.slice A n c) := (blk_cell BK4.out 1).trans rfl; clear hb) | (go_at_call 16; (with_reducible refine (c_rcheck HN.out (Kd.C_below HP.out HB.out) HC.out).mono ?_); rintro e w10 ⟨rfl, hb⟩; replace HB := Aside0.mk (HB.out.trans (hb.mono HB.out.size)); replace BK1 := Aside0.mk (blk_below BK1.out hb); replace HX := Aside0.mk (Kd.S_below HX.out hb); replace BK4 := Aside0.mk (blk_below BK4.out hb); clear z0 z1 y0 y1; have z0 : w10.cell? ⟨g1, 0, none⟩ = some (.int .i64 G) := (blk_cell BK1.out 0).trans rfl; have z1 : w10.cell? ⟨g1, 1, none⟩ = some (.slice A0 n c0) := (blk_cell BK1.out 1).trans rfl; have y0 : w10.cell? ⟨g4, 0, none⟩ = some (.int .i64 G) := (blk_cell BK4.out 0).trans rfl; have y1 : w10.cell? ⟨g4, 1, none⟩ = some (.slice A n c) := (blk_cell BK4.out 1).trans rfl; clear hb) | (go_at_call 17; (with_reducible refine (c_rloc HI.out HN.out (Kd.C_below HP.out HB.out) HC.out).mono ?_); rintro e w11 ⟨rfl, hb⟩; replace HB := Aside0.mk (HB.out.trans (hb.mono HB.out.size)); replace BK1 := Aside0.mk (blk_below BK1.out hb); replace HX := Aside0.mk (Kd.S_below HX.out hb); replace BK4 := Aside0.mk (blk_below BK4.out hb); clear z0 z1 y0 y1; have z0 : w11.cell? ⟨g1, 0, none⟩ = some (.int .i64 G) := (blk_cell BK1.out 0).trans rfl; have z1 : w11.cell? ⟨g1, 1, none⟩ = some (.slice A0 n c0) := (blk_cell BK1.out 1).trans rfl; have y0 : w11.cell? ⟨g4, 0, none⟩ = some (.int .i64 G) := (blk_cell BK4.out 0).trans rfl; have y1 : w11.cell? ⟨g4, 1, none⟩ = some (.slice A n c) := (blk_cell BK4.out 1).trans rfl; clear hb) | (go_at_call 18; refine (turned_any G A c n w2.heap.size (fun k => k < w3.heap.size) x0 _ HN.out.symm (HN.out ▸ wide_S46 HX.out) (Nat.le_trans HXsz.out (Nat.le_trans Hg4.out (Nat.le_of_lt (blk_lt BK4.out)))) HI.out).mono ?_; rintro e w12 ⟨⟨u, rfl⟩, fs2, hlen, hin, hS, hb, hk⟩; have HB_ := Aside0.mk (HB.out.trans (hb.mono HWl.out)); have BK1_ := Aside0.mk ((hb.block g1 HGl.out).trans BK1.out); have BK4_ := Aside0.mk ((hk.2 g4 (blk_lt BK4.out) (fun h => by have := Hg4.out; omega)).trans BK4.out); have HF := Aside0.mk hS; have HIn := Aside0.mk hin; have HLn : Aside0 (n = fs2.length) := ⟨hlen.symm⟩; clear z0 z1 y0 y1 HB BK1 BK4 HX hS hin hlen hb hk; have HB := HB_; have BK4 := BK4_; clear HB_ BK1_ BK4_; have y0 : w12.cell? ⟨g4, 0, none⟩ = some (.int .i64 G) := (blk_cell BK4.out 0).trans rfl; have y1 : w12.cell? ⟨g4, 1, none⟩ = some (.slice A n c) := (blk_cell BK4.out 1).trans rfl) | (go_at_call 19; (with_reducible refine (c_copy HIn.out HLn.out (plain_reads HLn.out HF.out).1 (plain_reads HLn.out HF.out).2).mono ?_); rintro e w13 ⟨A2, c2, rfl, hC, hb⟩; replace HB := Aside0.mk (HB.out.trans (hb.mono HB.out.size)); replace BK4 := Aside0.mk (blk_below BK4.out hb); replace HF := Aside0.mk (Kd.S_below HF.out hb); have HQ := Aside0.mk hC.1; have HQc := Aside0.mk hC.2; clear y0 y1 hb hC) | ((with_reducible refine gate_dst (N := 8) rfl ?_); refine box_event ?hg (N := 8) ?hd (cs := #[.int .i64 0, .slice none 0 0]) (t := 24) ?hr ?_; (case hd => rfl); (case hg => rfl); (case hr => first | (go_simp; done) | (go_simp; rfl)); intro g8 hg w14 hbox hb; have HN8 : Aside0 (g4 < g8) := ⟨by have := blk_lt BK4.out; omega⟩; have HF8 : Aside0 (w13.heap.size ≤ g8) := ⟨Nat.le_of_eq hg.symm⟩; have HBox : Aside0 (Below w13.heap.size w13 w14) := ⟨hb⟩; have HQ0 := Aside0.mk HQ.out; replace HF := Aside0.mk (Kd.S_mono (Kd.S_bound HF.out) (fun k hk => hk.2.2.1 : ∀ k, _ → k < w13.heap.size)); have G8 : Aside0 (W.heap.size ≤ g8) := ⟨by have := HB.out.size; omega⟩; replace HB := Aside0.mk (HB.out.trans (hb.mono HB.out.size)); replace BK4 := Aside0.mk (blk_below BK4.out hb); replace HF := Aside0.mk (Kd.S_below HF.out hb); replace HQ := Aside0.mk (Kd.C_below HQ.out hb); have BK8 := Aside0.mk hbox; clear hg hbox hb) | ((with_reducible refine gate_ (.store 24 (.tmp 8) (.tmp 40)) rfl ?_); refine blk_store rfl rfl 24 (.tmp 8) (.tmp 40) rfl 24 (cur2 := #[.int .i64 G, .slice A2 n c2]) _ [.int .i64 G, .slice A2 n c2] rfl rfl rfl size24 (one2 _ _ _ _) BK8.out (Nat.le_refl 2) rfl ?_; intro w15 hk hg; have HB_ := Aside0.mk (HB.out.grown hg HB.out.size (fun k hk => by injection hk with hk; have := G8.out; omega)); have HF_ := Aside0.mk (Kd.S_grown HF.out hg (fun k hk e => by injection e with e; have := HF8.out; omega)); have HQ_ := Aside0.mk (k46_heap.C (w1 := w15) (fun k hlt => (hg.block k (Nat.lt_of_lt_of_le hlt HBox.out.size) (fun e => by injection e with e; have := HF8.out; omega)).trans (HBox.out.block k hlt)) HQ0.out); have BK4_ := Aside0.mk ((hg.block g4 (blk_lt BK4.out) (fun e => by injection e with e; have := HN8.out; omega)).trans BK4.out); clear HB HF BK4 BK8 HQ; have HB := HB_; have HF := HF_; have HQ := HQ_; have BK4 := BK4_; have BK8 := Aside0.mk hk; clear HB_ HF_ HQ_ BK4_ hk hg; have y0 : w15.cell? ⟨g4, 0, none⟩ = some (.int .i64 G) := (blk_cell BK4.out 0).trans rfl; have y1 : w15.cell? ⟨g4, 1, none⟩ = some (.slice A n c) := (blk_cell BK4.out 1).trans rfl; have q0 : w15.cell? ⟨g8, 0, none⟩ = some (.int .i64 G) := (blk_cell BK8.out 0).trans rfl; have q1 : w15.cell? ⟨g8, 1, none⟩ = some (.slice A2 n c2) := (blk_cell BK8.out 1).trans rfl) | (go_at_call 12; (with_reducible refine (c_check HLn.out (plain_reads HLn.out HF.out).1 (plain_reads HLn.out HF.out).2).mono ?_); rintro e w16 ⟨rfl, hb⟩; replace HB := Aside0.mk (HB.out.trans (hb.mono HB.out.size)); replace BK4 := Aside0.mk (blk_below BK4.out hb); replace HF := Aside0.mk (Kd.S_below HF.out hb); replace HQ := Aside0.mk (Kd.C_below HQ.out hb); replace BK8 := Aside0.mk (blk_below BK8.out hb); clear y0 y1 q0 q1; have y0 : w16.cell? ⟨g4, 0, none⟩ = some (.int .i64 G) := (blk_cell BK4.out 0).trans rfl; have y1 : w16.cell? ⟨g4, 1, none⟩ = some (.slice A n c) := (blk_cell BK4.out 1).trans rfl; have q0 : w16.cell? ⟨g8, 0, none⟩ = some (.int .i64 G) := (blk_cell BK8.out 0).trans rfl; have q1 : w16.cell? ⟨g8, 1, none⟩ = some (.slice A2 n c2) := (blk_cell BK8.out 1).trans rfl; clear hb) | (go_at_call 13; (with_reducible refine (c_loc HIn.out HLn.out (plain_reads HLn.out HF.out).1 (plain_reads HLn.out HF.out).2).mono ?_); rintro e w17 ⟨rfl, hb⟩; replace HB := Aside0.mk (HB.out.trans (hb.mono HB.out.size)); replace BK4 := Aside0.mk (blk_below BK4.out hb); replace HF := Aside0.mk (Kd.S_below HF.out hb); replace HQ := Aside0.mk (Kd.C_below HQ.out hb); replace BK8 := Aside0.mk (blk_below BK8.out hb); clear y0 y1 q0 q1; have q0 : w17.cell? ⟨g8, 0, none⟩ = some (.int .i64 G) := (blk_cell BK8.out 0).trans rfl; have q1 : w17.cell? ⟨g8, 1, none⟩ = some (.slice A2 n c2) := (blk_cell BK8.out 1).trans rfl; clear hb) | (go_at_call 16; (with_reducible refine (c_rcheck HLn.out HQ.out HQc.out).mono ?_); rintro e w18 ⟨rfl, hb⟩; replace HB := Aside0.mk (HB.out.trans (hb.mono HB.out.size)); replace BK4 := Aside0.mk (blk_below BK4.out hb); replace HF := Aside0.mk (Kd.S_below HF.out hb); replace HQ := Aside0.mk (Kd.C_below HQ.out hb); replace BK8 := Aside0.mk (blk_below BK8.out hb); clear q0 q1; have q0 : w18.cell? ⟨g8, 0, none⟩ = some (.int .i64 G) := (blk_cell BK8.out 0).trans rfl; have q1 : w18.cell? ⟨g8, 1, none⟩ = some (.slice A2 n c2) := (blk_cell BK8.out 1).trans rfl; clear hb) | (go_at_call 17; (with_reducible refine (c_rloc HIn.out HLn.out HQ.out HQc.out).mono ?_); rintro e w19 ⟨rfl, hb⟩; replace HB := Aside0.mk (HB.out.trans (hb.mono HB.out.size)); replace BK4 := Aside0.mk (blk_below BK4.out hb); replace HF := Aside0.mk (Kd.S_below HF.out hb); replace HQ := Aside0.mk (Kd.C_below HQ.out hb); replace BK8 := Aside0.mk (blk_below BK8.out hb); clear q0 q1 hb))
 go_ret
 exact ⟨rfl, HB.out⟩
end Go.Proofs.YteonppgdmhakoaaDoor.PC
namespace Go.Proofs.YteonppgdmhakoaaDoor.codeChecks
open Go.Proofs.YteonppgdmhakoaaDoor.PC Go.ChangeShapes Go.WideShapes Go.ChangeAt Go.RowKit Go.Proofs.YteonppgdmhakoaaDoor.Open
set_option linter.unusedVariables false
theorem own : ownKnob Tryd.prog.godebug = none := by kernel_rfl
theorem laidOut : laidOutB Tryd.prog = true := by kernel_rfl
set_option maxRecDepth 100000 in
theorem contract (H : Type) (enc : TypeId × Value → H) (W : World) (base : Nat) (args : Array Value) (ds gs : List (DataW H)) (before : List MemPlace)
  (hval0 : ∀ (j : Nat) t v, Tryd.f3.params[j]? = some t → args[j]? = some v → Value.okWide Tryd.prog W .any base t v)
  (hW : DataW.Whole enc Tryd.prog Tryd.f3.params.toList Rows.codeChecksSpec.vars false W args.toList ds gs before)
  (hsz0 : (DataW.weightsEach Tryd.prog (Tryd.f3.params.toList ++ Rows.codeChecksSpec.plain.varTypes Tryd.prog) (ds ++ gs)).all (· ≤ reachBytes) = true)
  (hL : laidMetH Tryd.prog Rows.codeChecksRow.laid W) :
  Calls Tryd.prog 3 args W fun e W' => ∃ v, e = .returned v ∧ Rows.codeChecksSpec.post enc Tryd.prog Tryd.f3 false true false false W args v W' := by
 have hT : Tab W := tab_laid hL
 have hval := hval0
 have hsz := hsz0
 have hW' := hW
 obtain ⟨p, q, hA0, hV, rfl, hfz, hnd⟩ := hW
 have hA : DataW.TrodAll enc Tryd.prog W 0 (fun _ => true) true Tryd.f3.params.toList args.toList ds p := hA0
 rw [Tryd.params3] at hA hval hsz
 obtain ⟨v0, vs0, d0, ds0, p0, q0, hargs, rfl, rfl, h0, r0⟩ := trodAll_cons hA
 obtain ⟨rfl, rfl, rfl⟩ := trodAll_nil r0
 obtain rfl : args = #[v0] := by cases args; simp_all
 obtain ⟨rfl, rfl⟩ := trodVars_none hV
 have k0 := h0
 have lt0 : ∀ x ∈ p0, x.block < W.heap.size := by obtain ⟨m, hm⟩ := k0; exact DataW.trod_lt m _ _ _ hm
 have ov0 := (hval 0 24 v0 rfl rfl)
 obtain ⟨fu0, hf0⟩ := h0
 obtain ⟨x0, hK0, hok0⟩ := Rd.read (rd24) hf0 (weights_at hsz (j := 0) (t := 24) rfl rfl)
 obtain ⟨A0, c0, rfl, l0, g0⟩ := open24 ov0 hK0
 clear hA0 hval0 hsz0 hsz
 refine (checks_any W l0 g0 hok0.2 hT).mono fun e W' ⟨he, bel⟩ => ?_
 subst he
 exact ⟨_, rfl, _, _, _, [], _, [], hW', trodAll_mk1 (shut_bool Tryd.underlying4 _), (trodAll_cons_mk (Below.trod laidOut (by kernel_rfl) (of_decide_eq_true (by kernel_rfl)) k0 bel lt0) trodAll_mk0), rfl, bel.frame _, fun h => by cases h⟩
theorem laid_met (os : Os) : laidMet Tryd.prog Rows.codeChecksRow.laid ((laidWorld os).forCall (fun _ _ => 0) ⟨#[], #[.agg #[.int .i64 0, .slice none 0 0]], []⟩).memory :=
 laidMet_of_run' 8 (by kernel_rfl) (by kernel_rfl)
theorem reads (os : Os) {H : Type} (enc : TypeId × Value → H) : ∃ places, DataW.whole enc Tryd.prog ((laidWorld os).forCall (fun _ _ => 0) ⟨#[], #[.agg #[.int .i64 0, .slice none 0 0]], []⟩).memory Tryd.f3.params.toList Rows.codeChecksSpec.vars false (#[.agg #[.int .i64 0, .slice none 0 0]] : Array Value).toList 8 = some ([.agg [.lit (.int .i64 0), .nil]], [], places) :=
 ⟨[], by kernel_rfl⟩
set_option maxRecDepth 100000 in
theorem lifted (os : Os) (started : os.Started) (H : Type) (enc : TypeId × Value → H) (F : Stop.Interp) :
  ReturnsInHanded {} Tryd.checked os 3 .any ((OpenSpec.ofChange Rows.codeChecksSpec).preRow enc Tryd.prog Tryd.f3 Rows.codeChecksRow.domain false Rows.codeChecksRow.laid) (((OpenSpec.ofChange Rows.codeChecksSpec).at F).post enc Tryd.prog Tryd.f3 false true false false) := by
 obtain ⟨places, hx⟩ := reads os enc
 refine returnsInHanded_of_row (C := Tryd.checked) (s := (OpenSpec.ofChange Rows.codeChecksSpec)) own started (by kernel_rfl) Tryd.func3
  (witness_row_at (enc := enc) (C := Tryd.checked) false (laidWorld os) #[.agg #[.int .i64 0, .slice none 0 0]] rfl (by kernel_rfl) (by kernel_rfl) (by kernel_rfl)
   (OpenSpec.preRow_of_cond 8 hx (by kernel_rfl) (fun k hk => by cases hk) (by kernel_rfl) (laid_met os))) ?_
 intro W base args ds gs before hval hW _ _ hsz hL _ _
 exact contract H enc W base args ds gs before hval hW hsz hL
theorem said : Rows.CodeChecksSaid :=
 OpenClaim.holds_of_cond 3 Tryd.f3 rfl rfl rfl rfl rfl rfl rfl ⟨rfl, rfl, rfl, rfl, rfl⟩ rfl rfl rfl rfl rfl (by kernel_rfl) Tryd.func3 (by kernel_rfl)
  (of_decide_eq_true (by kernel_rfl)) (by unfold Func.isWrapper; first | (rw [if_pos (by decide +kernel)]; kernel_rfl) | (rw [if_neg (by decide +kernel)]; exact ⟨rfl, rfl⟩))
  (fun os started H enc _ F => by rw [OpenClaim.pre_eq_preRow]; exact lifted os started H enc F)
theorem plain (f : FuncId) (fn : Func) (hf : Tryd.pinned.checked.prog.funcNamed "fugue/fuguelaw01.CodeChecks" = some f) (hfn : Tryd.pinned.checked.prog.funcs[f]? = some fn) :
  true = Tryd.pinned.checked.prog.looks [] ∧ ∀ (j : Nat) t, fn.params[j]? = some t → Tryd.pinned.checked.prog.wantsStandIn t = false := by
 obtain rfl : f = 3 := Option.some.inj ((show Tryd.prog.funcNamed "fugue/fuguelaw01.CodeChecks" = some 3 by kernel_rfl).symm.trans hf) |>.symm
 obtain rfl : fn = Tryd.f3 := (Option.some.inj (Tryd.func3.symm.trans hfn)).symm
 refine ⟨by kernel_rfl, fun j t ht => ?_⟩
 rw [Tryd.params3] at ht
 have hm := Array.mem_of_getElem? ht
 simp only [List.mem_toArray, List.mem_cons, List.not_mem_nil, or_false] at hm
 rcases hm with rfl
 ·exact (show Tryd.prog.wantsStandIn 24 = false by kernel_rfl)
theorem card : Rows.CodeChecksCardSaid :=
 Claim7.holds_tied_plain_at .later [] _ _ _ _ said (fun _ h => by cases h) (by kernel_rfl) (fun _ h => by cases h) codeChecks_row_tie rfl ⟨rfl, rfl⟩ (by kernel_rfl) rfl plain (by kernel_rfl)
#print axioms card
end Go.Proofs.YteonppgdmhakoaaDoor.codeChecks
namespace Go.Proofs.YteonppgdmhakoaaDoor
theorem codeChecks_holds : Rows.CodeChecksCardSaid := codeChecks.card
end Go.Proofs.YteonppgdmhakoaaDoor
