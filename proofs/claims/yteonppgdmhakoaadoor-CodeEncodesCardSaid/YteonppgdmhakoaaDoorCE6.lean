/- What a proof of this seat needs, laid together by a program of the session's. No conditions. -/
import Derived.Test.YteonppgdmhakoaaDoorCE5
import Derived.Test.YteonppgdmhakoaaDoorCE2
import Derived.Test.YteonppgdmhakoaaDoorCE4
import Derived.Test.YteonppgdmhakoaaDoorCE1
import Derived.Test.YteonppgdmhakoaaDoorCE3
import Derived.Test.YteonppgdmhakoaaDoorRows
import Derived.WalkKit
import Derived.ProofKit
import Derived.OpenShut
import Derived.ShutString
import Derived.ChangeOld
import Derived.Below
import Derived.SizedLaws
import Derived.Carry
namespace Go.Proofs.YteonppgdmhakoaaDoor.PC
open Go.RowKit Go.Proofs.YteonppgdmhakoaaDoorW.PrintWords Go.Proofs.YteonppgdmhakoaaDoorW.PrintLast Go.Proofs.YteonppgdmhakoaaDoorW.PrintMore
set_option linter.unusedVariables false
set_option linter.unusedSimpArgs false
section
variable {P : Program} {ops : Array Oper} {rest : List Oper} {o : Oper} {a : Act} {Q : Exit → Act → World → Prop}
theorem blk_store {W : World} (hN : o.dst = none) (hgd : o.guard = none) (t : TypeId) (p x : Operand) (ho : o.op = .store t p x) (e : TypeId) {g j : Nat} {cur cur2 : Array Value} (u : Value) (seg : List Value)
  (haddr : a.eval p = .pointer (some ⟨g, j, none⟩)) (hx : a.eval x = u) (hu : u.cells.toList = seg) (ht : (P.info? t).map (·.size) = some seg.length) (hone : ∀ q ∈ seg, q.oneCell' = true)
  (hh : W.heap[g]? = some (.cells cur e (0, 0))) (hfit : j + seg.length ≤ cur.size) (hc : cur2.toList = cur.toList.take j ++ seg ++ cur.toList.drop (j + seg.length))
  (h : ∀ w1, w1.heap[g]? = some (.cells cur2 e (0, 0)) → W.grownBy w1 (some g) → wpList P ops Q rest a w1) : wpList P ops Q (o :: rest) a W := by
 obtain ⟨cur', h3, h4, h5⟩ := setCells_row seg j W cur hh hfit
 obtain ⟨s1, s2, s3, s4⟩ := setCells_same g seg j W
 have e1 : cur' = cur2 := by
  apply Array.ext'
  rw [h5, hc]
 subst e1
 have hrun : (Instr.storeAt t (.pointer (some ⟨g, j, none⟩)) u).run P W = .ok () (W.setCells g j seg) := run_store_run t u seg hh hu ht hfit hone
 refine wpList_plain hgd fun K hK => ?_
 unfold Oper.wp execOp
 simp only [ho, haddr, hx, Sem.run_bind, Sem.run_pure, Result.andThen_ok, hrun]
 show K (a.put o.dst undef) _
 rw [hN]
 exact hK a _ (h _ h3 ⟨s1, s2, s3, by rw [s4]; exact Nat.le_refl _, fun k _ hk => setCells_far seg _ k (fun he => hk (by rw [he]))⟩)
end
theorem size44 : (Tryd.prog.info? 44).map (·.size) = some 1 := by kernel_rfl
theorem size24 : (Tryd.prog.info? 24).map (·.size) = some 2 := by kernel_rfl
theorem one4 (a b c : Int) (A : Option Addr) (n k : Nat) : ∀ u ∈ [Value.int .i64 a, .int .i64 b, .int .i64 c, .slice A n k], u.oneCell' = true := by
 intro u hu
 simp only [List.mem_cons, List.not_mem_nil, or_false] at hu
 rcases hu with rfl | rfl | rfl | rfl <;> rfl
theorem one2 (a : Int) (A : Option Addr) (n k : Nat) : ∀ u ∈ [Value.int .i64 a, .slice A n k], u.oneCell' = true := by
 intro u hu
 simp only [List.mem_cons, List.not_mem_nil, or_false] at hu
 rcases hu with rfl | rfl <;> rfl
def zero46 : List Value := [.int .i64 0, .int .i64 0, .int .i64 0, .slice none 0 0]
theorem k46w_mk {w : World} {base : Nat} {ok : Nat → Prop} {x : S46} {v3 : Value} (g3 : wC.M w base ok x.f3 [v3]) : k46w.M w base ok x [.int .i64 x.f0, .int .i64 x.f1, .int .i64 x.f2, v3] :=
 ⟨[.int .i64 x.f0], _, rfl, rfl, [.int .i64 x.f1], _, rfl, rfl, [.int .i64 x.f2], [v3], rfl, rfl, g3⟩
set_option maxHeartbeats 1600000 in
theorem widefunc_any (x0 x1 x2 : Int) (A0 : Option Addr) (c0 n : Nat) (xs : List S50) (w : World) (hn : n = xs.length) (hr : Kd.C k50 w A0 xs.length xs) (hc : xs.length ≤ c0) (hl : xs.length ≤ 1600000000000) (hfit : ∀ (q : Nat) (h : q < xs.length), xs[q].f5.length ≤ 17592186044416 ∧ xs[q].f6.length ≤ 17592186044416) :
  Calls Tryd.prog 30 #[.agg #[.int .i64 x0, .int .i64 x1, .int .i64 x2, .slice A0 n c0]] w fun e w' => ∃ A c, e = .returned (.agg #[.int .i64 x0, .int .i64 x1, .int .i64 x2, .slice A n c]) ∧ wC.M w' w.heap.size (fun k => w.heap.size ≤ k) xs [.slice A n c] ∧ Below w.heap.size w w' := by
 have HB := Az.mk (Below.refl w.heap.size w)
 have HR := Az.mk hr
 have HF := Az.mk hfit
 have HC := Az.mk hc
 have HL := Az.mk hl
 have HN := Az.mk hn
 clear hr hfit hc hl hn
 go_enter Tryd.func30, Tryd.ntmps30
 go_wp2_with (first | ((with_reducible refine gate_dst (N := 1) rfl ?_); refine box_event ?hg (N := 1) ?hd (cs := #[.int .i64 x0, .int .i64 x1, .int .i64 x2, .slice A0 n c0]) (t := 46) ?hr ?_; (case hd => rfl); (case hg => rfl); (case hr => first | (go_simp; done) | (go_simp; rfl)); intro g1 hg w1 hbox hb; have G1 : Az (w.heap.size ≤ g1) := ⟨by have := HB.out.size; omega⟩; replace HB := Az.mk (HB.out.trans (hb.mono HB.out.size)); have BK1 := Az.mk hbox; clear hg hbox hb) | ((with_reducible refine gate_dst (N := 2) rfl ?_); refine box_event ?hg (N := 2) ?hd (cs := #[.int .i64 0, .int .i64 0, .int .i64 0, .slice none 0 0]) (t := 46) ?hr ?_; (case hd => rfl); (case hg => rfl); (case hr => first | (go_simp; done) | (go_simp; rfl)); intro g2 hg w2 hbox hb; have BK1_0 := BK1; have G2 : Az (w.heap.size ≤ g2) := ⟨by have := HB.out.size; omega⟩; replace HB := Az.mk (HB.out.trans (hb.mono HB.out.size)); replace BK1 := Az.mk (kZ BK1.out hb); have BK2 := Az.mk hbox; have HNe : Az (g1 < g2 ∧ w1.heap.size ≤ g2) := ⟨by have := (blk_lt BK1_0.out); omega, by omega⟩; clear hg hbox hb; have z3 : w2.cell? ⟨g1, 3, none⟩ = some (.slice A0 n c0) := (bZ BK1.out 3).trans rfl) | (go_at_call 56; refine (widecode_any A0 c0 n xs w2 HN.out (Kd.C_below HR.out HB.out) HC.out HL.out HF.out).mono ?_; rintro e w3 ⟨A, c, rfl, hS, hb⟩; have HS := Az.mk hS; have HB3 := Az.mk (HB.out.trans (hb.mono HB.out.size)); have BK1c := Az.mk (kZ BK1.out hb); have BK2c := Az.mk (kZ BK2.out hb); have HZ := Az.mk (show g1 < w2.heap.size ∧ g2 < w2.heap.size ∧ w.heap.size ≤ w2.heap.size from ⟨blk_lt BK1.out, blk_lt BK2.out, HB.out.size⟩); clear hS hb z3) | ((with_reducible refine gate_ (.store 44 (.tmp 6) (.tmp 5)) rfl ?_); refine blk_store rfl rfl 44 (.tmp 6) (.tmp 5) rfl 46 (cur2 := #[.int .i64 x0, .int .i64 x1, .int .i64 x2, .slice A n c]) _ [.slice A n c] rfl rfl rfl size44 (one1 _ _ _) BK1c.out (Nat.le_refl 4) rfl ?_; intro w4 hk hg; have HB4 := Az.mk (HB3.out.grown hg HB3.out.size (fun k hk => by injection hk with hk; have := G1.out; omega)); have HS4 := Az.mk (Kd.S_grown (Kd.S_mono (Kd.S_bound HS.out) (fun k hk => hk.2.1 : ∀ k, _ → w2.heap.size ≤ k)) hg (fun k hk e => by injection e with e; have := HZ.out.1; omega)); have BK2d := Az.mk ((hg.block g2 (blk_lt BK2c.out) (fun e => by injection e with e; have := HNe.out.1; omega)).trans BK2c.out); have q0 : w4.cell? ⟨g1, 0, none⟩ = some (.int .i64 x0) := (bZ hk 0).trans rfl; have q1 : w4.cell? ⟨g1, 1, none⟩ = some (.int .i64 x1) := (bZ hk 1).trans rfl; have q2 : w4.cell? ⟨g1, 2, none⟩ = some (.int .i64 x2) := (bZ hk 2).trans rfl; have q3 : w4.cell? ⟨g1, 3, none⟩ = some (.slice A n c) := (bZ hk 3).trans rfl; clear hg hk) | ((with_reducible refine gate_ (.store 46 (.tmp 2) (.tmp 7)) rfl ?_); refine blk_store rfl rfl 46 (.tmp 2) (.tmp 7) rfl 46 (cur2 := #[.int .i64 x0, .int .i64 x1, .int .i64 x2, .slice A n c]) _ [.int .i64 x0, .int .i64 x1, .int .i64 x2, .slice A n c] rfl rfl rfl size46 (one4 _ _ _ _ _ _) BK2d.out (Nat.le_refl 4) rfl ?_; intro w5 hk hg; have HB5 := Az.mk (HB4.out.grown hg HB4.out.size (fun k hk => by injection hk with hk; have := G2.out; omega)); have HS5 := Az.mk (Kd.S_grown HS4.out hg (fun k hk e => by injection e with e; have := HZ.out.2.1; omega)); have BK2e := Az.mk hk; clear hg hk q0 q1 q2 q3))
 refine bodyPost_ret (results_cell_row rfl _ _ g2 46 #[.int .i64 x0, .int .i64 x1, .int .i64 x2, .slice A n c] (0, 0) _ rfl BK2e.out Tryd.underlying46 rfl (by kernel_rfl)) rfl ?_
 exact ⟨A, c, rfl, ⟨A, c, by rw [HN.out], by rw [marked_len]; omega, Kd.S_lower (Kd.S_mono HS5.out (fun k hk => Nat.le_trans HZ.out.2.2 hk)) HZ.out.2.2⟩, HB5.out⟩
abbrev fSw (W : World) (b : Nat) (ok : Nat → Prop) (v : Value) (ys : List (S46 ⊕ List Value)) : Prop := Kd.S e46 46 W b ok v ys
set_option maxHeartbeats 8000000 in
set_option maxRecDepth 100000 in
theorem wideprogram_any (G : Int) (A0 : Option Addr) (c0 n : Nat) (fs : List S46) (w : World) (hn : n = fs.length) (hr : Kd.C k46 w A0 fs.length fs) (hc : fs.length ≤ c0) (hl : fs.length ≤ 3000000000000) (hfit : ∀ (q : Nat) (h : q < fs.length), fs[q].f3.length ≤ 1600000000000 ∧ ∀ (j : Nat) (h2 : j < fs[q].f3.length), fs[q].f3[j].f5.length ≤ 17592186044416 ∧ fs[q].f3[j].f6.length ≤ 17592186044416) :
  Calls Tryd.prog 11 #[.agg #[.int .i64 G, .slice A0 n c0]] w fun e w' => ∃ A c, e = .returned (.agg #[.int .i64 G, .slice A n c]) ∧ fSw w' w.heap.size (fun _ => True) (.slice A (marked mark46 fs).length c) (marked mark46 fs) ∧ Below w.heap.size w w' := by
 obtain ⟨m, hm⟩ : ∃ m, m = n + 64 := ⟨_, rfl⟩
 have hlen : (marked mark46 fs).length = m := by rw [marked_len]; omega
 rw [hlen]
 have HW : Az (wrap64 ((n : Int) + 64) = (m : Int)) := ⟨by rw [wrap_in (by omega) (by omega)]; omega⟩
 have HL : Az (n = fs.length ∧ m = n + 64 ∧ n ≤ 3000000000000) := ⟨hn, hm, by omega⟩
 have HR : Az (Kd.C k46 w A0 n fs) := ⟨by rw [hn]; exact hr⟩
 have HF := Az.mk hfit
 have HB := Az.mk (Below.refl w.heap.size w)
 have hm0 : n ≤ 9223372036854775807 := by omega
 have hm1 : m ≤ 9223372036854775807 := by omega
 clear hr hc hl hfit hm hn hlen
 go_enter Tryd.func11, Tryd.ntmps11
 go_wp2_with (first | ((with_reducible refine gate_dst (N := 1) rfl ?_); refine box_event ?hg (N := 1) ?hd (cs := #[.int .i64 G, .slice A0 n c0]) (t := 24) ?hr ?_; (case hd => rfl); (case hg => rfl); (case hr => first | (go_simp; done) | (go_simp; rfl)); intro g1 hg w1 hbox hb; have G1 : Az (w.heap.size ≤ g1) := ⟨by have := HB.out.size; omega⟩; replace HB := Az.mk (HB.out.trans (hb.mono HB.out.size)); have BK1 := Az.mk hbox; clear hg hbox hb) | ((with_reducible refine gate_dst (N := 2) rfl ?_); refine box_event ?hg (N := 2) ?hd (cs := #[.int .i64 0, .slice none 0 0]) (t := 24) ?hr ?_; (case hd => rfl); (case hg => rfl); (case hr => first | (go_simp; done) | (go_simp; rfl)); intro g2 hg w2 hbox hb; have G2 : Az (w.heap.size ≤ g2) := ⟨by have := HB.out.size; omega⟩; replace HB := Az.mk (HB.out.trans (hb.mono HB.out.size)); replace BK1 := Az.mk (kZ BK1.out hb); have BK2 := Az.mk hbox; clear hg hbox hb; have z0 : w2.cell? ⟨g1, 0, none⟩ = some (.int .i64 G) := (bZ BK1.out 0).trans rfl; have z1 : w2.cell? ⟨g1, 1, none⟩ = some (.slice A0 n c0) := (bZ BK1.out 1).trans rfl) | ((with_reducible refine gate_dst (N := 9) rfl ?_); refine Kd.S_make e46 (w0 := w) w.heap.size 46 rfl (N := 9) rfl 22 (.tmp 8) (.tmp 8) rfl (m : Int) (congrArg (Value.int .i64) HW.out) (congrArg (Value.int .i64) HW.out) Tryd.underlying22 _ 48 info46 rfl (by decide) (by omega) (.inr zero46) (ok := fun _ => True) (okp := fun _ => True) (either_inr ⟨rfl, rfl, by decide⟩) (fun _ h => h) trivial (Int.natCast_nonneg m) (by rw [Int.toNat_natCast]; have := HL.out; omega) HB.out HB.out.size ?_; intro v1 w3 hs hb hg hat; rw [Int.toNat_natCast] at hs; obtain ⟨A1, c1, e1⟩ := Kd.S_slice hs; rw [List.length_replicate] at e1; subst e1; have HS := Az.mk hs; have HB3 := Az.mk hb; have hle : Az (m ≤ c1) := ⟨(Kd.S_reads' hs).2.1⟩; have HAt : Az (∃ b, (Value.slice A1 m c1).ownBlock = some b ∧ g1 < b ∧ g2 < b) := ⟨by obtain ⟨b, h1, h2⟩ := hat; exact ⟨b, h1, Nat.lt_of_lt_of_le (blk_lt BK1.out) h2, Nat.lt_of_lt_of_le (blk_lt BK2.out) h2⟩⟩; have HK10 := Az.mk ((hg.block g1 (blk_lt BK1.out) (fun e => by cases e)).trans BK1.out); have HK20 := Az.mk ((hg.block g2 (blk_lt BK2.out) (fun e => by cases e)).trans BK2.out); clear hs hb hg hat z0 z1))
 obtain ⟨g, e1⟩ : ∃ g, A1 = some ⟨g, 0, none⟩ := by
  obtain ⟨g, cap, e, _⟩ := Kd.S_form HS.out (by rw [List.length_replicate]; have := HL.out; omega)
  injection e with e
  exact ⟨g, e⟩
 subst e1
 have HNe : Az (g1 ≠ g ∧ g2 ≠ g) := ⟨by
  obtain ⟨b, h1, h2, h3⟩ := HAt.out
  have : g = b := by simpa [Value.ownBlock] using h1
  omega⟩
 have HS0 : Az (fSw w3 w.heap.size (fun _ => True) (.slice (some ⟨g, 0, none⟩) m c1) (laidTo zero46 mark46 fs 0)) := ⟨by rw [laidTo_zero, ← HL.out.1, ← HL.out.2.1]; exact HS.out⟩
 clear HS BK1 BK2 HAt
 go_loopw [4] (fun v4 w' => ∃ q : Nat, q ≤ m ∧ v4 = .int .i64 (q : Int) ∧ Az (fSw w' w.heap.size (fun _ => True) (.slice (some ⟨g, 0, none⟩) m c1) (laidTo zero46 mark46 fs q)) ∧ Az (w'.heap[g1]? = some (.cells #[.int .i64 G, .slice A0 n c0] 24 (0, 0))) ∧ Az (w'.heap[g2]? = some (.cells #[.int .i64 0, .slice none 0 0] 24 (0, 0))) ∧ Az (Below w.heap.size w w')) (fun i _ => m - (intOf i).toNat)
 case atStart => exact ⟨0, Nat.zero_le _, rfl, HS0, HK10, HK20, HB3⟩
 case round =>
  obtain ⟨q, hq, rfl, HS', HK1, HK2, HB'⟩ := hrel
  clear HS0 HB3 HK10 HK20
  have z0' : wr.cell? ⟨g1, 0, none⟩ = some (.int .i64 G) := (bZ HK1.out 0).trans rfl
  have z1' : wr.cell? ⟨g1, 1, none⟩ = some (.slice A0 n c0) := (bZ HK1.out 1).trans rfl
  by_cases hlt : q < m
  ·have hwp : wrap64 ((q : Int) + 1) = (q : Int) + 1 := wrap_in (by omega) (by have := HL.out; omega)
   have HQ : Az (q < fs.length + 64) := ⟨by have := HL.out; omega⟩
   have HLt := Az.mk hlt
   by_cases hlx : q < n
   ·obtain ⟨ad, A3, c3, e0, h0, h1, h2, h3, hl3, hi3⟩ := at_T46 HR.out (q : Int) (Int.natCast_nonneg q) (Int.ofNat_lt.2 hlx)
    cases e0
    have hqx : q < fs.length := by have := HL.out; omega
    obtain ⟨x, hx⟩ : ∃ x, x = rd_T46 fs (q : Int) := ⟨_, rfl⟩
    rw [← hx] at h0 h1 h2 h3 hl3 hi3
    have hx2 : fs[q] = x := by rw [hx]; unfold rd_T46; rw [Int.toNat_natCast, List.getD_eq_getElem?_getD, List.getElem?_eq_getElem hqx]; rfl
    have hf := HF.out q hqx
    rw [hx2] at hf
    have HX : Az ((marked mark46 fs)[q]? = some (.inl x)) := ⟨by rw [marked_at _ _ _ hqx, hx2]⟩
    have Hf3 := Az.mk hf
    rw [Int.toNat_natCast] at h0 h1 h2 h3
    have H0 := Az.mk h0
    have H1 := Az.mk h1
    have H2 := Az.mk h2
    have H3 := Az.mk h3
    have Hl3 := Az.mk hl3
    have Hi3 := Az.mk hi3
    have HQl : Az (q < (laidTo zero46 mark46 fs q).length) := ⟨by rw [laidTo_len _ _ _ _ (by have := HQ.out; omega)]; exact HQ.out⟩
    have hm3 : x.f3.length ≤ 9223372036854775807 := by omega
    clear h0 h1 h2 h3 hl3 hi3 hx hx2 hf
    go_wp2_with (first | ((with_reducible refine gate_ (.store 46 (.tmp 19) (.tmp 18)) rfl ?_); refine put_raw (d := k46w) (w0 := w) w.heap.size rfl rfl 46 (.tmp 19) (.tmp 18) rfl 46 q 0 (laidTo zero46 mark46 fs q) _ mark46 zero46 mark46 (fun _ => True) rfl rfl rfl rfl size46 (one4 _ _ _ _ _ _) HS'.out HLt.out (laidTo_at _ _ _ _ HQ.out) (Nat.le_refl 4) rfl rfl (one4 _ _ _ _ _ _) HB'.out ?_; intro w2 hs hb hg; have y0 := ((show Az (Below w.heap.size w w2) from ⟨hb⟩).out.cell (World.block_lt_of_cell? w _ H0.out)).trans H0.out; have y1 := ((show Az (Below w.heap.size w w2) from ⟨hb⟩).out.cell (World.block_lt_of_cell? w _ H1.out)).trans H1.out; have y2 := ((show Az (Below w.heap.size w w2) from ⟨hb⟩).out.cell (World.block_lt_of_cell? w _ H2.out)).trans H2.out; have y3 := ((show Az (Below w.heap.size w w2) from ⟨hb⟩).out.cell (World.block_lt_of_cell? w _ H3.out)).trans H3.out; have HS2 := Az.mk hs; have HB2 := Az.mk hb; have HK1b := Az.mk ((hg.block g1 (blk_lt HK1.out) (fun e => HNe.out.1 (Option.some.inj e))).trans HK1.out); have HK2b := Az.mk ((hg.block g2 (blk_lt HK2.out) (fun e => HNe.out.2 (Option.some.inj e))).trans HK2.out); have z0 : w2.cell? ⟨g1, 0, none⟩ = some (.int .i64 G) := (bZ HK1b.out 0).trans rfl; have z1 : w2.cell? ⟨g1, 1, none⟩ = some (.slice _ n c0) := (bZ HK1b.out 1).trans rfl; clear hs hb hg z0' z1') | (go_at_call 30; refine (widefunc_any x.f0 x.f1 x.f2 A3 c3 x.f3.length x.f3 w2 rfl (Kd.C_below Hi3.out HB2.out) Hl3.out Hf3.out.1 Hf3.out.2).mono ?_; rintro e w3 ⟨B3, b3, rfl, hM, hb⟩; have HM3 := Az.mk hM; have HB3 := Az.mk (HB2.out.trans (hb.mono HB2.out.size)); have HS3 := Az.mk (Kd.S_below (Kd.S_mono (Kd.S_bound HS2.out) (fun k hk => hk.2.2.1 : ∀ k, _ → k < w2.heap.size)) hb); have HK1c := Az.mk (kZ HK1b.out hb); have HK2c := Az.mk (kZ HK2b.out hb); clear hM hb y0 y1 y2 y3 z0 z1) | ((with_reducible refine gate_ (.store 46 (.tmp 33) (.tmp 32)) rfl ?_); refine put_seg (d := k46w) (w0 := w) w.heap.size rfl rfl 46 (.tmp 33) (.tmp 32) rfl 46 q 0 ((laidTo zero46 mark46 fs q).set q (.inr mark46)) (.inl x) _ [.int .i64 x.f0, .int .i64 x.f1, .int .i64 x.f2, .slice B3 x.f3.length b3] mark46 (fun _ => True) (fun k => w2.heap.size ≤ k) (fun k => w2.heap.size ≤ k) rfl rfl rfl rfl size46 (one4 _ _ _ _ _ _) (Kd.S_mono HS3.out (fun k hk => ⟨trivial, Nat.not_le.2 hk⟩)) HLt.out (List.getElem?_set_self HQl.out) (Nat.le_refl 4) (either_inl (k46w_mk (wC.M_lower HB2.out.size HM3.out))) (fun _ h => h) (fun _ _ => trivial) HB3.out ?_; intro w4 hs hb hg; rw [List.set_set, laidTo_set _ _ _ _ HQ.out _ HX.out] at hs; have HS4 := Az.mk hs; have HB4 := Az.mk hb; have HK1d := Az.mk ((hg.block g1 (blk_lt HK1c.out) (fun e => HNe.out.1 (Option.some.inj e))).trans HK1c.out); have HK2d := Az.mk ((hg.block g2 (blk_lt HK2c.out) (fun e => HNe.out.2 (Option.some.inj e))).trans HK2c.out); clear hs hb hg))
    go_roundw
    case rel => exact ⟨q + 1, by have := HLt.out; omega, by go_num, HS4, HK1d, HK2d, HB4⟩
    case measure => exact Nat.sub_lt_sub_left (show q < m from HLt.out) (show q < q + 1 from Nat.lt_succ_self q)
   ·have HX : Az ((marked mark46 fs)[q]? = some (.inr mark46)) := ⟨marked_past _ _ _ (by have := HL.out; omega) HQ.out⟩
    go_wp2_with ((with_reducible refine gate_ (.store 46 (.tmp 19) (.tmp 18)) rfl ?_); refine put_raw (d := k46w) (w0 := w) w.heap.size rfl rfl 46 (.tmp 19) (.tmp 18) rfl 46 q 0 (laidTo zero46 mark46 fs q) _ mark46 zero46 mark46 (fun _ => True) rfl rfl rfl rfl size46 (one4 _ _ _ _ _ _) HS'.out HLt.out (laidTo_at _ _ _ _ HQ.out) (Nat.le_refl 4) rfl rfl (one4 _ _ _ _ _ _) HB'.out ?_; intro w2 hs hb hg; rw [laidTo_set _ _ _ _ HQ.out _ HX.out] at hs; have HS2 := Az.mk hs; have HB2 := Az.mk hb; have HK1b := Az.mk ((hg.block g1 (blk_lt HK1.out) (fun e => HNe.out.1 (Option.some.inj e))).trans HK1.out); have HK2b := Az.mk ((hg.block g2 (blk_lt HK2.out) (fun e => HNe.out.2 (Option.some.inj e))).trans HK2.out); have z0 : w2.cell? ⟨g1, 0, none⟩ = some (.int .i64 G) := (bZ HK1b.out 0).trans rfl; have z1 : w2.cell? ⟨g1, 1, none⟩ = some (.slice _ n c0) := (bZ HK1b.out 1).trans rfl; clear hs hb hg z0' z1')
    go_roundw
    case rel => exact ⟨q + 1, by have := HLt.out; omega, by go_num, HS2, HK1b, HK2b, HB2⟩
    case measure => exact Nat.sub_lt_sub_left (show q < m from HLt.out) (show q < q + 1 from Nat.lt_succ_self q)
  ·obtain rfl : q = m := by omega
   obtain ⟨i0, hi0, _, hsz, _⟩ := info_parts info46
   have hcut := cut_cap (P := Tryd.prog) 22 46 .i64 Tryd.underlying22 hi0 (some ⟨g, 0, none⟩) q c1 (n : Int) (Int.natCast_nonneg n) (by have := HL.out; have := hle.out; omega)
   rw [Int.toNat_natCast] at hcut
   have he : Az (laidTo zero46 mark46 fs q = marked mark46 fs) := ⟨by rw [HL.out.2.1, HL.out.1]; exact laidTo_all _ _ _⟩
   have HLt := Az.mk hlt
   clear hi0 hsz hlt
   go_wp2_with fail
   refine wp_tail 8 (by kernel_rfl) (by kernel_rfl) ?_
   simp only [List.take_succ_cons, List.take_zero, List.drop_succ_cons, List.drop_zero]
   repeat still_step
   refine wpStill_nil ?_
   go_wp2_with ((with_reducible refine gate_ (.store 24 (.tmp 2) (.tmp 41)) rfl ?_); refine blk_store rfl rfl 24 (.tmp 2) (.tmp 41) rfl 24 (cur2 := #[.int .i64 G, .slice (some ⟨g, 0, none⟩) n c1]) _ [.int .i64 G, .slice (some ⟨g, 0, none⟩) n c1] rfl rfl rfl size24 (one2 _ _ _ _) HK2.out (Nat.le_refl 2) rfl ?_; intro w5 hk hg; have HB5 := Az.mk ((below_drew HB'.out).grown hg HB'.out.size (fun k hk => by injection hk with hk; have := G2.out; omega)); have HS5 := Az.mk (Kd.S_mono (Kd.S_grown (Kd.S_types (Kd.S_drew HS'.out) HK2.out (by decide)) hg (fun k hk e => hk.2 (Option.some.inj e))) (fun _ h => h.1)); have BK2e := Az.mk hk; clear hg hk)
   refine bodyPost_ret (results_cell_row rfl _ _ g2 24 #[.int .i64 G, .slice (some ⟨g, 0, none⟩) n c1] (0, 0) _ rfl BK2e.out Tryd.underlying24 rfl (by kernel_rfl)) rfl ?_
   exact ⟨_, _, rfl, he.out ▸ HS5.out, HB5.out⟩
def In50 (x : S50) : Prop := x.f5.length ≤ 17592186044416 ∧ x.f6.length ≤ 17592186044416
def In46 (f : S46) : Prop := f.f3.length ≤ 1599289640401 ∧ ∀ x ∈ f.f3, In50 x
def In24 (fs : List S46) : Prop := fs.length ≤ 2932031007402 ∧ ∀ f ∈ fs, In46 f
theorem size3 : (Tryd.prog.info? 3).map (·.size) = some 1 := by kernel_rfl
theorem oneI (z : Int) : ∀ u ∈ [Value.int .i64 z], u.oneCell' = true := by
 intro u hu
 rw [List.mem_singleton.1 hu]
 rfl
structure TurnI (base : Nat) (w0 : World) (ok : Nat → Prop) (v : Value) (fs : List S46) (q : Int) (oki : Nat → Prop) (c : List Value) (v3 : Value) (g1 : Nat) (bc : Array Value) (ys : List S50) (W : World) : Prop where
 row : k50.R 50 W base oki v3 ys
 hole : Kd.H k46 46 W base (fun k => ok k ∧ k ≠ g1) v fs q oki c
 blk : W.heap[g1]? = some (.cells bc 24 (0, 0))
 below : Below base w0 W
 kept : Kept w0 W ok
theorem turn_at {base : Nat} {w0 : World} {ok : Nat → Prop} {v : Value} {fs : List S46} {q : Int} {oki : Nat → Prop} {c : List Value} {g1 h len c3 : Nat} {bc : Array Value} {ys : List S50} {W : World} (HI : TurnI base w0 ok v fs q oki c (.slice (some ⟨h, 0, none⟩) len c3) g1 bc ys W) (k : Nat) {y : S50} (hy : ys[k]? = some y) :
  W.cell? ⟨h, k * 7, none⟩ = some (.int .i64 y.f0) ∧ W.cell? ⟨h, k * 7 + 4, none⟩ = some (.int .i64 y.f4) := by
 have hl := (List.getElem?_eq_some_iff.1 hy).1
 have hn := (Kd.R_reads' HI.row).1
 obtain ⟨cc, hcl, hM, hcc, _⟩ := Kd.R_elem HI.row z50 (k : Int) (Int.natCast_nonneg k) (by omega)
 rw [Int.toNat_natCast, List.getD_eq_getElem?_getD, hy, Option.getD_some] at hM
 obtain ⟨v5, v6, rfl, _, _⟩ := k50_openM hM
 have h0 := hcc 0 _ rfl
 have h4 := hcc 4 _ rfl
 rw [Int.toNat_natCast] at h0 h4
 exact ⟨h0, h4⟩
section
variable {P : Program} {ops : Array Oper} {rest : List Oper} {o : Oper} {a : Act} {Q : Exit → Act → World → Prop}
theorem turn_store {base : Nat} {w0 : World} {ok : Nat → Prop} {v : Value} {fs : List S46} {q : Int} {oki : Nat → Prop} {c : List Value} {g1 h len c3 : Nat} {bc : Array Value} {ys : List S50} {W : World} (hN : o.dst = none) (hgd : o.guard = none) (p x : Operand) (ho : o.op = .store 3 p x) (hs : (P.info? 3).map (·.size) = some 1) (k j : Nat) (y x' : S50) (z : Int)
  (haddr : a.eval p = .pointer (some ⟨h, k * 7 + j, none⟩)) (hx : a.eval x = .int .i64 z) (hj : j + 1 ≤ 7)
  (he : ∀ v5 v6, ([.int .i64 y.f0, .int .i64 y.f1, .int .i64 y.f2, .int .i64 y.f3, .int .i64 y.f4, v5, v6] : List Value).take j ++ [.int .i64 z] ++ ([.int .i64 y.f0, .int .i64 y.f1, .int .i64 y.f2, .int .i64 y.f3, .int .i64 y.f4, v5, v6] : List Value).drop (j + 1) = [.int .i64 x'.f0, .int .i64 x'.f1, .int .i64 x'.f2, .int .i64 x'.f3, .int .i64 x'.f4, v5, v6])
  (h5 : x'.f5 = y.f5) (h6 : x'.f6 = y.f6) (hy : ys[k]? = some y)
  (HI : TurnI base w0 ok v fs q oki c (.slice (some ⟨h, 0, none⟩) len c3) g1 bc ys W)
  (hc : ∀ w1, TurnI base w0 ok v fs q oki c (.slice (some ⟨h, 0, none⟩) len c3) g1 bc (ys.set k x') w1 → wpList P ops Q rest a w1) : wpList P ops Q (o :: rest) a W := by
 have hl := (List.getElem?_eq_some_iff.1 hy).1
 have hn := (Kd.R_reads' HI.row).1
 obtain ⟨cc, hcl, hM, hcc, _⟩ := Kd.R_elem HI.row z50 (k : Int) (Int.natCast_nonneg k) (by omega)
 rw [Int.toNat_natCast, List.getD_eq_getElem?_getD, hy, Option.getD_some] at hM
 obtain ⟨v5, v6, rfl, g5, g6⟩ := k50_openM hM
 have hoh : oki h := HI.row.1 h (by simp [Value.ownBlock])
 refine Kd.R_store k50 (w0 := w0) base hN hgd 3 p x ho 50 (g := h) (n := len) (cap := c3) (k : Int) j ys x' (.int .i64 z) [.int .i64 z] _ oki (fun b => oki b ∧ b ≠ h) haddr (by rw [Int.toNat_natCast]; rfl) hx rfl hs (oneI z) HI.row (Int.natCast_nonneg k) (by omega) hcl hcc hj ?_ (fun _ hk => hk) HI.below ?_
 ·rw [List.length_singleton, he v5 v6]
  exact k50_mkM W base _ x' (h5 ▸ g5) (h6 ▸ g6)
 ·intro w1 hr hb hg
  rw [Int.toNat_natCast] at hr
  refine hc w1 ⟨hr, Kd.H_grown HI.hole hg (fun b hb => by injection hb with hb; exact hb ▸ hoh), (hg.block g1 (blk_lt HI.blk) (fun e => ?_)).trans HI.blk, hb, Kept.of_grown hg HI.kept (fun b hb => by injection hb with hb; exact .inl (hb ▸ (HI.hole.1 h hoh).1))⟩
  injection e with e
  exact (HI.hole.1 h hoh).2 e.symm
end
theorem in_set {ys : List S50} {k : Nat} {x' : S50} (h : ∀ y ∈ ys, In50 y) (hx : In50 x') : ∀ y ∈ ys.set k x', In50 y := fun y hy => by
 rcases List.mem_or_eq_of_mem_set hy with h1 | h1
 ·exact h y h1
 ·exact h1 ▸ hx
theorem in_set46 {fs : List S46} {k : Nat} {f : S46} (h : In24 fs) (hx : In46 f) : In24 (fs.set k f) := ⟨by rw [List.length_set]; exact h.1, fun y hy => by
 rcases List.mem_or_eq_of_mem_set hy with h1 | h1
 ·exact h.2 y h1
 ·exact h1 ▸ hx⟩
def TurnPost (base n : Nat) (w : World) (ok : Nat → Prop) (v : Value) (e : Ending) (w' : World) : Prop := (∃ u, e = .returned u) ∧ ∃ fs', fs'.length = n ∧ In24 fs' ∧ Kd.S k46 46 w' base ok v fs' ∧ Below base w w' ∧ Kept w w' ok
structure TurnO (base n : Nat) (w0 : World) (ok : Nat → Prop) (v : Value) (g1 : Nat) (bc : Array Value) (fs : List S46) (W : World) : Prop where
 len : fs.length = n
 fit : In24 fs
 row : Kd.S k46 46 W base (fun k => ok k ∧ k ≠ g1) v fs
 blk : W.heap[g1]? = some (.cells bc 24 (0, 0))
 below : Below base w0 W
 kept : Kept w0 W ok
set_option maxHeartbeats 8000000 in
set_option maxRecDepth 100000 in
theorem turned_any (G : Int) (A0 : Option Addr) (c0 n base : Nat) (ok : Nat → Prop) (fs : List S46) (w : World) (hn : fs.length = n) (hS : Kd.S k46 46 w base ok (.slice A0 n c0) fs) (hb : base ≤ w.heap.size) (hfit : In24 fs) :
  Calls Tryd.prog 18 #[.agg #[.int .i64 G, .slice A0 n c0]] w (TurnPost base n w ok (.slice A0 n c0)) := by
 have HS := Az.mk hS
 have HF := Az.mk hfit
 have HN := Az.mk hn
 have Hb := Az.mk hb
 have hm0 : n ≤ 9223372036854775807 := by have := hfit.1; omega
 have HL : Az (n ≤ 2932031007402) := ⟨by have := hfit.1; omega⟩
 have HB := Az.mk (Below.refl w.heap.size w)
 clear hS hfit hn hb
 go_enter Tryd.func18, Tryd.ntmps18
 go_wp2_with ((with_reducible refine gate_dst (N := 1) rfl ?_); refine box_event ?hg (N := 1) ?hd (cs := #[.int .i64 G, .slice A0 n c0]) (t := 24) ?hr ?_; (case hd => rfl); (case hg => rfl); (case hr => first | (go_simp; done) | (go_simp; rfl)); intro g1 hg w1 hbox hb; have G1 : Az (w.heap.size ≤ g1) := ⟨by have := HB.out.size; omega⟩; replace HB := Az.mk (HB.out.trans (hb.mono HB.out.size)); have BK1 := Az.mk hbox; clear hg hbox hb)
 have HO : Az (TurnO base n w ok (.slice A0 n c0) g1 #[.int .i64 G, .slice A0 n c0] fs w1) := ⟨HN.out, HF.out, Kd.S_below (Kd.S_elderB HS.out g1 G1.out) HB.out, BK1.out, HB.out.mono Hb.out, Kept.of_below HB.out ok⟩
 clear HB BK1
 go_loopw [2] (fun v2 w' => ∃ (q : Nat) (fs' : List S46), q ≤ n ∧ v2 = .int .i64 (q : Int) ∧ Az (TurnO base n w ok (.slice A0 n c0) g1 #[.int .i64 G, .slice A0 n c0] fs' w')) (fun i _ => n - (intOf i).toNat)
 case atStart => exact ⟨0, fs, Nat.zero_le _, rfl, HO⟩
 case round =>
  obtain ⟨q, fs', hq, rfl, HO'⟩ := hrel
  clear HO
  by_cases hlt : q < n
  ·have HWp : Az (wrap64 ((q : Int) + 1) = (q : Int) + 1) := ⟨wrap_in (by omega) (by have := HL.out; omega)⟩
   have hq0 : (0 : Int) ≤ (q : Int) := Int.natCast_nonneg q
   obtain ⟨g, cap, e0, _⟩ := Kd.S_form HO'.out.row (by rw [HO'.out.len]; omega)
   injection e0 with e0 e1 e2
   clear e1 e2
   subst e0
   have Hg1 : Az (g1 ≠ g) := ⟨fun e => by have := Kd.S_away HO'.out.row (g := g1) (fun k hk => hk.2); exact this (by rw [e]; simp [Value.ownBlock])⟩
   have HGo : Az (ok g) := ⟨(HO'.out.row.choose_spec.1 g (by simp [Value.ownBlock])).1⟩
   have hqf : q < fs'.length := by rw [HO'.out.len]; exact hlt
   obtain ⟨x, hx⟩ : ∃ x, x = fs'[q] := ⟨_, rfl⟩
   obtain ⟨oki, c, hcl, hM, hcc, hfr, hoki, HH⟩ := Kd.S_elem HO'.out.row x (q : Int) hq0 (Int.ofNat_lt.2 hlt)
   rw [Int.toNat_natCast, List.getD_eq_getElem?_getD, List.getElem?_eq_getElem hqf] at hM
   replace hM : k46.M wr base oki x c := by rw [hx]; exact hM
   obtain ⟨v3, rfl, hR3⟩ := k46_openM hM
   obtain ⟨A3, c3, rfl⟩ := Kd.R_slice hR3
   have HXi : Az (In46 x) := ⟨by rw [hx]; exact HO'.out.fit.2 _ (List.getElem_mem hqf)⟩
   obtain ⟨len, hlen⟩ : ∃ len, len = x.f3.length := ⟨_, rfl⟩
   rw [← hlen] at hR3 hcc HH
   have HI : Az (TurnI base w ok (.slice (some ⟨g, 0, none⟩) n c0) fs' (q : Int) oki [.int .i64 x.f0, .int .i64 x.f1, .int .i64 x.f2, .slice A3 len c3] (.slice A3 len c3) g1 #[.int .i64 G, .slice (some ⟨g, 0, none⟩) n c0] x.f3 wr) := ⟨hR3, HH, HO'.out.blk, HO'.out.below, HO'.out.kept⟩
   have Hoki := Az.mk hoki
   have HLen : Az (x.f3.length = len ∧ ∀ y ∈ x.f3, In50 y) := ⟨hlen.symm, HXi.out.2⟩
   have hm3 : len ≤ 9223372036854775807 := by have := HXi.out.1; omega
   have HL3 : Az (len ≤ 1599289640401) := ⟨by have := HXi.out.1; omega⟩
   have HX := Az.mk hx
   have HLt := Az.mk hlt
   have z1 : wr.cell? ⟨g1, 1, none⟩ = some (.slice (some ⟨g, 0, none⟩) n c0) := (bZ HI.out.blk 1).trans rfl
   clear hcl hM hcc hfr hoki HH hR3 hlen hx
   go_wp2_with fail
   clear z1
   go_loopw [3] (fun v3 w' => ∃ (k : Nat) (ys : List S50), k ≤ len ∧ v3 = .int .i64 (k : Int) ∧ Az (TurnI base w ok (.slice (some ⟨g, 0, none⟩) n c0) fs' (q : Int) oki [.int .i64 x.f0, .int .i64 x.f1, .int .i64 x.f2, .slice A3 len c3] (.slice A3 len c3) g1 #[.int .i64 G, .slice (some ⟨g, 0, none⟩) n c0] ys w') ∧ Az (ys.length = len ∧ ∀ y ∈ ys, In50 y)) (fun i _ => len - (intOf i).toNat)
   case atStart => exact ⟨0, _, Nat.zero_le _, rfl, HI, HLen⟩
   case round =>
    obtain ⟨k, ys, hk, rfl, HI', HLen'⟩ := hrel
    clear HI HLen
    have z1 : wr.cell? ⟨g1, 1, none⟩ = some (.slice (some ⟨g, 0, none⟩) n c0) := (bZ HI'.out.blk 1).trans rfl
    obtain ⟨hcg, hcf⟩ := Kd.H_at HI'.out.hole hq0 (Int.ofNat_lt.2 HLt.out)
    have z3 : wr.cell? ⟨g, q * 4 + 3, none⟩ = some (.slice A3 len c3) := by have := hcg 3 _ rfl; rwa [Int.toNat_natCast] at this
    have z2 : wr.cell? ⟨g, q * 4 + 2, none⟩ = some (.int .i64 x.f2) := by have := hcg 2 _ rfl; rwa [Int.toNat_natCast] at this
    clear hcg hcf
    by_cases hkt : k < len
    ·have hwk : wrap64 ((k : Int) + 1) = (k : Int) + 1 := wrap_in (by omega) (by have := HL3.out; omega)
     have hk0 : (0 : Int) ≤ (k : Int) := Int.natCast_nonneg k
     obtain ⟨h, cap3, e0, _⟩ := Kd.R_form HI'.out.row (by rw [HLen'.out.1]; omega)
     injection e0 with e0 e1 e2
     clear e1 e2
     subst e0
     have hky : k < ys.length := by rw [HLen'.out.1]; exact hkt
     obtain ⟨yc, hy⟩ : ∃ y, ys[k]? = some y := ⟨_, List.getElem?_eq_getElem hky⟩
     obtain ⟨y0, y4⟩ := turn_at HI'.out k hy
     obtain ⟨N, hN⟩ : ∃ N, N = yc.f4 := ⟨_, rfl⟩
     have HNe := Az.mk hN
     rw [← hN] at y4
     have HY := Az.mk hy
     have HYi : Az (In50 yc) := ⟨HLen'.out.2 yc (List.mem_of_getElem? hy)⟩
     have HKt := Az.mk hkt
     clear hy hN
     have hA : (decide ((0 : Int) ≤ yc.f0) = true ∧ decide (yc.f0 < 18) = true) ∨ (decide ((0 : Int) ≤ yc.f0) = true ∧ decide (yc.f0 < 18) = false) ∨ decide ((0 : Int) ≤ yc.f0) = false := by
      by_cases a1 : (0 : Int) ≤ yc.f0
      ·by_cases a2 : yc.f0 < 18
       ·exact .inl ⟨decide_eq_true a1, decide_eq_true a2⟩
       ·exact .inr (.inl ⟨decide_eq_true a1, decide_eq_false a2⟩)
      ·exact .inr (.inr (decide_eq_false a1))
     have hB : ((q : Int) % 2 = 1 ∧ decide (0 < N) = true) ∨ ((q : Int) % 2 = 1 ∧ decide (0 < N) = false) ∨ ¬ (q : Int) % 2 = 1 := by
      by_cases a1 : (q : Int) % 2 = 1
      ·by_cases a2 : 0 < N
       ·exact .inl ⟨a1, decide_eq_true a2⟩
       ·exact .inr (.inl ⟨a1, decide_eq_false a2⟩)
      ·exact .inr (.inr a1)
     clear z2
     rcases hA with ⟨d1, d2⟩ | ⟨d1, d2⟩ | d1 <;> rcases hB with ⟨d3, d4⟩ | ⟨d3, d4⟩ | d3
     all_goals
      go_wp2_with (first | ((with_reducible refine gate_ (.store 3 (.tmp 49) (.tmp 47)) rfl ?_); refine turn_store (w0 := w) rfl rfl (.tmp 49) (.tmp 47) rfl size3 k 0 yc ⟨wrap64 (yc.f0 + 1), yc.f1, yc.f2, yc.f3, yc.f4, yc.f5, yc.f6⟩ _ rfl rfl (by decide) (fun _ _ => rfl) rfl rfl HY.out HI'.out ?_; intro w5 hi; obtain ⟨y2, hy2⟩ : ∃ y2, y2 = (⟨wrap64 (yc.f0 + 1), yc.f1, yc.f2, yc.f3, yc.f4, yc.f5, yc.f6⟩ : S50) := ⟨_, rfl⟩; have HYi2 : Az (In50 y2) := ⟨by rw [hy2]; exact HYi.out⟩; have hf4 : y2.f4 = N := (congrArg S50.f4 hy2).trans HNe.out.symm; rw [← hy2] at hi; obtain ⟨ys2, hys⟩ : ∃ ys2, ys2 = ys.set k y2 := ⟨_, rfl⟩; rw [← hys] at hi; have HY2 : Az (ys2[k]? = some y2) := ⟨by rw [hys]; exact List.getElem?_set_self hky⟩; have HLen2 : Az (ys2.length = len ∧ ∀ y ∈ ys2, In50 y) := ⟨by rw [hys, List.length_set]; exact ⟨HLen'.out.1, in_set HLen'.out.2 HYi2.out⟩⟩; clear z1 z3 y0 y4 HI' HY HLen' HYi; have y4 : w5.cell? ⟨h, k * 7 + 4, none⟩ = some (.int .i64 N) := (by rw [← hf4]; exact (turn_at hi k HY2.out).2); obtain ⟨hcg, hcf⟩ := Kd.H_at hi.hole hq0 (Int.ofNat_lt.2 HLt.out); have z1 : w5.cell? ⟨g1, 1, none⟩ = some (.slice (some ⟨g, 0, none⟩) n c0) := (bZ hi.blk 1).trans rfl; have z3 : w5.cell? ⟨g, q * 4 + 3, none⟩ = some (.slice (some ⟨h, 0, none⟩) len c3) := (by have := hcg 3 _ rfl; rwa [Int.toNat_natCast] at this); have HI' := Az.mk hi; have HY := HY2; have HLen' := HLen2; have HYi := HYi2; clear hcg hcf hi hy2 hf4 hys HY2 HLen2 HYi2) | ((with_reducible refine gate_ (.store 3 (.tmp 78) (.tmp 76)) rfl ?_); refine turn_store (w0 := w) rfl rfl (.tmp 78) (.tmp 76) rfl size3 k 4 yc ⟨yc.f0, yc.f1, yc.f2, yc.f3, wrap64 (N - 1), yc.f5, yc.f6⟩ _ rfl rfl (by decide) (fun _ _ => rfl) rfl rfl HY.out HI'.out ?_; intro w6 hi; have HLen2 : Az ((ys.set k ⟨yc.f0, yc.f1, yc.f2, yc.f3, wrap64 (N - 1), yc.f5, yc.f6⟩).length = len ∧ ∀ y ∈ (ys.set k ⟨yc.f0, yc.f1, yc.f2, yc.f3, wrap64 (N - 1), yc.f5, yc.f6⟩), In50 y) := ⟨by rw [List.length_set]; exact ⟨HLen'.out.1, in_set HLen'.out.2 (show In50 _ from HYi.out)⟩⟩; clear z1 z3 y4 HI' HLen'; have HI' := Az.mk hi; have HLen' := HLen2; clear hi HLen2) | ((with_reducible refine gate_ (.store 3 (.tmp 78) (.tmp 76)) rfl ?_); refine turn_store (w0 := w) rfl rfl (.tmp 78) (.tmp 76) rfl size3 k 4 y2 ⟨y2.f0, y2.f1, y2.f2, y2.f3, wrap64 (N - 1), y2.f5, y2.f6⟩ _ rfl rfl (by decide) (fun _ _ => rfl) rfl rfl HY.out HI'.out ?_; intro w6 hi; have HLen2 : Az ((ys2.set k ⟨y2.f0, y2.f1, y2.f2, y2.f3, wrap64 (N - 1), y2.f5, y2.f6⟩).length = len ∧ ∀ y ∈ (ys2.set k ⟨y2.f0, y2.f1, y2.f2, y2.f3, wrap64 (N - 1), y2.f5, y2.f6⟩), In50 y) := ⟨by rw [List.length_set]; exact ⟨HLen'.out.1, in_set HLen'.out.2 (show In50 _ from HYi.out)⟩⟩; clear z1 z3 y4 HI' HLen'; have HI' := Az.mk hi; have HLen' := HLen2; clear hi HLen2))
      go_roundw
      case rel => exact ⟨k + 1, _, by have := HKt.out; omega, by go_num, HI', HLen'⟩
      case measure => exact Nat.sub_lt_sub_left (show k < len from HKt.out) (show k < k + 1 from Nat.lt_succ_self k)
    ·obtain rfl : k = len := by omega
     have HIx : Az (In46 ⟨x.f0, x.f1, x.f2, ys⟩) := ⟨by show ys.length ≤ _; rw [HLen'.out.1]; exact HL3.out, HLen'.out.2⟩
     have HSb : Az (TurnO base n w ok (.slice (some ⟨g, 0, none⟩) n c0) g1 #[.int .i64 G, .slice (some ⟨g, 0, none⟩) n c0] (fs'.set q ⟨x.f0, x.f1, x.f2, ys⟩) wr) := ⟨by rw [List.length_set]; exact HO'.out.len, in_set46 HO'.out.fit HIx.out, by have := Kd.H_back HI'.out.hole (k46_mkM wr base oki ⟨x.f0, x.f1, x.f2, ys⟩ HI'.out.row) (fun _ h => h); rwa [Int.toNat_natCast] at this, HI'.out.blk, HI'.out.below, HI'.out.kept⟩
     have hwp := HWp.out
     have hB : ((q : Int) % 3 = 2 ∧ decide (0 < x.f2) = true) ∨ ((q : Int) % 3 = 2 ∧ decide (0 < x.f2) = false) ∨ ¬ (q : Int) % 3 = 2 := by
      by_cases a1 : (q : Int) % 3 = 2
      ·by_cases a2 : 0 < x.f2
       ·exact .inl ⟨a1, decide_eq_true a2⟩
       ·exact .inr (.inl ⟨a1, decide_eq_false a2⟩)
      ·exact .inr (.inr a1)
     rcases hB with ⟨d3, d4⟩ | ⟨d3, d4⟩ | d3
     ·go_wp2_with ((with_reducible refine gate_ (.store 3 (.tmp 99) (.tmp 97)) rfl ?_); refine Kd.H_store k46 (w0 := w) base rfl rfl 3 (.tmp 99) (.tmp 97) rfl 46 (q : Int) 2 fs' ⟨x.f0, x.f1, wrap64 (x.f2 - 1), ys⟩ (.int .i64 (wrap64 (x.f2 - 1))) [.int .i64 (wrap64 (x.f2 - 1))] _ (fun k => ok k ∧ k ≠ g1) oki oki rfl (by rw [Int.toNat_natCast]; rfl) rfl rfl size3 (oneI _) HI'.out.hole hq0 (Int.ofNat_lt.2 HLt.out) (show (3 : Nat) ≤ 4 by omega) (k46_mkM wr base oki ⟨x.f0, x.f1, wrap64 (x.f2 - 1), ys⟩ HI'.out.row) (fun _ h => h) HI'.out.below ?_; intro w5 hs hb hg; rw [Int.toNat_natCast] at hs; have HSc : Az (TurnO base n w ok (.slice (some ⟨g, 0, none⟩) n c0) g1 #[.int .i64 G, .slice (some ⟨g, 0, none⟩) n c0] (fs'.set q ⟨x.f0, x.f1, wrap64 (x.f2 - 1), ys⟩) w5) := ⟨by rw [List.length_set]; exact HO'.out.len, in_set46 HO'.out.fit HIx.out, hs, (hg.block g1 (blk_lt HI'.out.blk) (fun e => Hg1.out (Option.some.inj e))).trans HI'.out.blk, hb, Kept.of_grown hg HI'.out.kept (fun b hb => by injection hb with hb; exact .inl (hb ▸ HGo.out))⟩; clear hs hb hg z1 z2 z3)
      go_roundw
      case rel => exact ⟨q + 1, _, by have := HLt.out; omega, by go_num, HSc⟩
      case measure => exact Nat.sub_lt_sub_left (show q < n from HLt.out) (show q < q + 1 from Nat.lt_succ_self q)
     all_goals
      go_wp2_with fail
      go_roundw
      case rel => exact ⟨q + 1, _, by have := HLt.out; omega, by go_num, HSb⟩
      case measure => exact Nat.sub_lt_sub_left (show q < n from HLt.out) (show q < q + 1 from Nat.lt_succ_self q)
  ·obtain rfl : q = n := by omega
   have HOf : Az (∃ fs', fs'.length = q ∧ In24 fs' ∧ Kd.S k46 46 wr base ok (.slice A0 q c0) fs' ∧ Below base w wr ∧ Kept w wr ok) := ⟨fs', HO'.out.len, HO'.out.fit, Kd.S_mono HO'.out.row (fun _ h => h.1), HO'.out.below, HO'.out.kept⟩
   have z1 : wr.cell? ⟨g1, 1, none⟩ = some (.slice A0 q c0) := (bZ HO'.out.blk 1).trans rfl
   go_wp2_with fail
   go_end0
   exact ⟨⟨_, rfl⟩, HOf.out⟩
theorem rdx50 (xs : List S50) (j : Nat) (h : j < xs.length) : rd_T50 xs (j : Int) = xs[j] := by unfold rd_T50; rw [Int.toNat_natCast, List.getD_eq_getElem?_getD, List.getElem?_eq_getElem h]; rfl
theorem rdx46 (xs : List S46) (j : Nat) (h : j < xs.length) : rd_T46 xs (j : Int) = xs[j] := by unfold rd_T46; rw [Int.toNat_natCast, List.getD_eq_getElem?_getD, List.getElem?_eq_getElem h]; rfl
theorem wrap_succ (j : Nat) (h : j < 9223372036854775807) : wrap64 ((j : Int) + 1) = ((j + 1 : Nat) : Int) := (wrap_in (x := (j : Int) + 1) (by omega) (by omega)).trans (by omega)
theorem copyints_ev (xs : List Int) (hl : xs.length ≤ 17592186044416) : Ev (fun k => fugueref00_CopyInts.f k xs) xs := by
 have gen : ∀ (d i : Nat), xs.length - i = d → i ≤ xs.length → Ev (fun k => fugueref00_CopyInts.l0 k xs (xs.take i) (i : Int)) xs := by
  intro d
  induction d with
  | zero =>
   intro i hd hi
   refine Ev.step (f := fun _ => some xs) (fun k => by rw [fugueref00_CopyInts.l0, if_neg (by omega), List.take_of_length_le (by omega)]) (Ev.now _)
  | succ d ih =>
   intro i hd hi
   have hx : i < xs.length := by omega
   have hA : (i : Int) < xs.length := by omega
   have hB : (0 : Int) ≤ i := by omega
   have hC : (xs.take i).length < 17592186044416 := by rw [List.length_take]; omega
   have hw := Az.mk (wrap_succ i (by omega))
   refine Ev.step (fun k => ?_) (ih (i + 1) (by omega) (by omega))
   rw [fugueref00_CopyInts.l0, if_pos hA, if_pos hB, if_pos hC, hw.out, rd_get xs i hx, List.take_succ_eq_append_getElem hx]
 exact gen xs.length 0 (by omega) (by omega)
theorem copyinstr_ev (x : S50) (h : In50 x) : Ev (fun k => fugueref00_CopyInstr.f k x.f0 x.f1 x.f2 x.f3 x.f4 x.f5 x.f6) (x.f0, x.f1, x.f2, x.f3, x.f4, x.f5, x.f6) := by
 unfold fugueref00_CopyInstr.f
 refine Ev.bind (copyints_ev x.f5 h.1) ?_
 refine Ev.bind (copyints_ev x.f6 h.2) ?_
 exact Ev.now _
theorem copycode_ev (xs : List S50) (hl : xs.length ≤ 1599289640401) (hf : ∀ x ∈ xs, In50 x) : Ev (fun k => fugueref00_CopyCode.f k xs) xs := by
 have gen : ∀ (d i : Nat), xs.length - i = d → i ≤ xs.length → Ev (fun k => fugueref00_CopyCode.l0 k xs (xs.take i) (i : Int)) xs := by
  intro d
  induction d with
  | zero =>
   intro i hd hi
   refine Ev.step (f := fun _ => some xs) (fun k => by rw [fugueref00_CopyCode.l0, if_neg (by omega), List.take_of_length_le (by omega)]) (Ev.now _)
  | succ d ih =>
   intro i hd hi
   have hx : i < xs.length := by omega
   have hA : (i : Int) < xs.length := by omega
   have hB : (0 : Int) ≤ i := by omega
   have hC : (xs.take i).length < 1599289640401 := by rw [List.length_take]; omega
   have hw := Az.mk (wrap_succ i (by omega))
   refine Ev.step (f := fun k => (fugueref00_CopyInstr.f k xs[i].f0 xs[i].f1 xs[i].f2 xs[i].f3 xs[i].f4 xs[i].f5 xs[i].f6).bind fun t => fugueref00_CopyCode.l0 k xs (xs.take i ++ [⟨t.1, t.2.1, t.2.2.1, t.2.2.2.1, t.2.2.2.2.1, t.2.2.2.2.2.1, t.2.2.2.2.2.2⟩]) ((i + 1 : Nat) : Int)) (fun k => ?_) ?_
   ·rw [fugueref00_CopyCode.l0, if_pos hA, if_pos hB, hw.out, rdx50 xs i hx]
    simp only [if_pos hC]
   ·refine Ev.bind (copyinstr_ev xs[i] (hf _ (List.getElem_mem hx))) ?_
    have e := (List.take_succ_eq_append_getElem hx).symm
    have h2 := ih (i + 1) (by omega) (by omega)
    rw [← e] at h2
    exact h2
 exact gen xs.length 0 (by omega) (by omega)
theorem copyfuncs_ev (fs : List S46) (h : In24 fs) : Ev (fun k => fugueref00_CopyFuncs.f k fs) fs := by
 have gen : ∀ (d i : Nat), fs.length - i = d → i ≤ fs.length → Ev (fun k => fugueref00_CopyFuncs.l0 k fs (fs.take i) (i : Int)) fs := by
  intro d
  induction d with
  | zero =>
   intro i hd hi
   refine Ev.step (f := fun _ => some fs) (fun k => by rw [fugueref00_CopyFuncs.l0, if_neg (by omega), List.take_of_length_le (by omega)]) (Ev.now _)
  | succ d ih =>
   intro i hd hi
   have hx : i < fs.length := by omega
   have hA : (i : Int) < fs.length := by omega
   have hB : (0 : Int) ≤ i := by omega
   have hC : (fs.take i).length < 2932031007402 := by rw [List.length_take]; have := h.1; omega
   have hw := Az.mk (wrap_succ i (by have := h.1; omega))
   refine Ev.step (f := fun k => (fugueref00_CopyFunc.f k fs[i].f0 fs[i].f1 fs[i].f2 fs[i].f3).bind fun t => fugueref00_CopyFuncs.l0 k fs (fs.take i ++ [⟨t.1, t.2.1, t.2.2.1, t.2.2.2⟩]) ((i + 1 : Nat) : Int)) (fun k => ?_) ?_
   ·rw [fugueref00_CopyFuncs.l0, if_pos hA, if_pos hB, hw.out, rdx46 fs i hx]
    simp only [if_pos hC]
   ·have hi := h.2 _ (List.getElem_mem hx)
    have h1 : Ev (fun k => fugueref00_CopyFunc.f k fs[i].f0 fs[i].f1 fs[i].f2 fs[i].f3) (fs[i].f0, fs[i].f1, fs[i].f2, fs[i].f3) := by
     unfold fugueref00_CopyFunc.f
     exact Ev.bind (copycode_ev fs[i].f3 hi.1 hi.2) (Ev.now _)
    refine Ev.bind h1 ?_
    have e := (List.take_succ_eq_append_getElem hx).symm
    have h2 := ih (i + 1) (by omega) (by omega)
    rw [← e] at h2
    exact h2
 exact gen fs.length 0 (by omega) (by omega)
theorem copyprog_ev (G : Int) (fs : List S46) (h : In24 fs) : Ev (fun k => fugueref00_CopyProgram.f k G fs) (G, fs) := by
 unfold fugueref00_CopyProgram.f
 exact Ev.bind (copyfuncs_ev fs h) (Ev.now _)
theorem e_at {α β : Type} {d : Kd α} {d2 : Kd β} {hz : d2.sz = d.sz} {w : World} {A : Option Addr} {ys : List (α ⊕ β)} (h : (either d d2 hz).C w A ys.length ys) (q : Nat) {y : α ⊕ β} (hq : ys[q]? = some y) : ∃ ad c, A = some ad ∧ c.length = d.sz ∧ (either d d2 hz).K w y c ∧ ∀ j u, c[j]? = some u → w.cell? (ad.add (q * d.sz + j)) = some u := by
 have hl := (List.getElem?_eq_some_iff.1 hq).1
 obtain ⟨ad, c, e, hcl, hK, hc⟩ := Kd.C_get h y (q : Int) (Int.natCast_nonneg q) (Int.ofNat_lt.2 hl)
 rw [Int.toNat_natCast, List.getD_eq_getElem?_getD, hq] at hK
 exact ⟨ad, c, e, hcl, hK, fun j u hu => by have := hc j u hu; rwa [Int.toNat_natCast] at this⟩
theorem wI_open {w : World} {xs : List Int} {cs : List Value} (h : wI.K w xs cs) : ∃ A c, cs = [.slice A xs.length c] ∧ (xs ++ marksI xs.length).length ≤ c ∧ (Kd.int .i64).C w A (xs ++ marksI xs.length).length (xs ++ marksI xs.length) := by
 obtain ⟨A, c, e, h1, h2, h3⟩ := h
 exact ⟨A, c, e, h2, h3⟩
theorem k50w_open {w : World} {x : S50} {cs : List Value} (h : k50w.K w x cs) : ∃ A5 c5 A6 c6, cs = [.int .i64 x.f0, .int .i64 x.f1, .int .i64 x.f2, .int .i64 x.f3, .int .i64 x.f4, .slice A5 x.f5.length c5, .slice A6 x.f6.length c6] ∧ ((x.f5 ++ marksI x.f5.length).length ≤ c5 ∧ (Kd.int .i64).C w A5 (x.f5 ++ marksI x.f5.length).length (x.f5 ++ marksI x.f5.length)) ∧ ((x.f6 ++ marksI x.f6.length).length ≤ c6 ∧ (Kd.int .i64).C w A6 (x.f6 ++ marksI x.f6.length).length (x.f6 ++ marksI x.f6.length)) := by
 obtain ⟨_, _, rfl, rfl, _, _, rfl, rfl, _, _, rfl, rfl, _, _, rfl, rfl, _, _, rfl, rfl, _, _, rfl, h5, h6⟩ := h
 obtain ⟨A5, c5, rfl, l5, g5⟩ := wI_open h5
 obtain ⟨A6, c6, rfl, l6, g6⟩ := wI_open h6
 exact ⟨A5, c5, A6, c6, rfl, ⟨l5, g5⟩, ⟨l6, g6⟩⟩
theorem k46w_open {w : World} {x : S46} {cs : List Value} (h : k46w.K w x cs) : ∃ A3 c3, cs = [.int .i64 x.f0, .int .i64 x.f1, .int .i64 x.f2, .slice A3 x.f3.length c3] ∧ (marked mark50 x.f3).length ≤ c3 ∧ e50.C w A3 (marked mark50 x.f3).length (marked mark50 x.f3) := by
 obtain ⟨_, _, rfl, rfl, _, _, rfl, rfl, _, _, rfl, rfl, A3, c3, rfl, _, l3, g3⟩ := h
 exact ⟨A3, c3, rfl, l3, g3⟩
set_option maxHeartbeats 8000000 in
set_option maxRecDepth 100000 in
theorem sparecode_any (A0 : Option Addr) (c0 n : Nat) (xs : List S50) (w : World) (hn : n = xs.length) (hr : e50.C w A0 (marked mark50 xs).length (marked mark50 xs)) (hc : (marked mark50 xs).length ≤ c0) (hl : xs.length ≤ 1600000000000) (hfit : ∀ (q : Nat) (h : q < xs.length), xs[q].f5.length ≤ 17592186044416 ∧ xs[q].f6.length ≤ 17592186044416) :
  Calls Tryd.prog 33 #[.slice A0 n c0] w fun e w' => e = .returned (.bool true) ∧ w' = w := by
 obtain ⟨m, hm⟩ : ∃ m, m = n + 64 := ⟨_, rfl⟩
 have hlen : (marked mark50 xs).length = m := by rw [marked_len]; omega
 have hw : wrap64 ((n : Int) + 64) = (m : Int) := by rw [wrap_in (by omega) (by omega)]; omega
 have HL : Az (n = xs.length ∧ m = n + 64 ∧ n ≤ 1600000000000) := ⟨hn, hm, by omega⟩
 have HR := Az.mk hr
 have HF := Az.mk hfit
 have hm0 : n ≤ 9223372036854775807 := by omega
 have hm1 : m ≤ 9223372036854775807 := by omega
 obtain ⟨i0, hi0, _, hsz, _⟩ := info_parts info50
 have hcut := cut_cap (P := Tryd.prog) 44 50 .i64 Tryd.underlying44 hi0 A0 n c0 (m : Int) (Int.natCast_nonneg m) (by omega)
 rw [Int.toNat_natCast] at hcut
 have HCut := Az.mk hcut
 clear hr hc hl hfit hm hn hlen hi0 hsz hcut
 go_enter Tryd.func33, Tryd.ntmps33
 have hcut := HCut.out
 go_wp2_with fail
 clear hcut hw
 go_loopw [4] (fun v4 w' => ∃ q : Nat, q ≤ m ∧ v4 = .int .i64 (q : Int) ∧ w' = w) (fun i _ => m - (intOf i).toNat)
 case atStart => exact ⟨0, Nat.zero_le _, rfl, rfl⟩
 case round =>
  obtain ⟨q, hq, rfl, rfl⟩ := hrel
  by_cases hlt : q < m
  ·have hwp : wrap64 ((q : Int) + 1) = (q : Int) + 1 := wrap_in (by omega) (by have := HL.out; omega)
   by_cases hlx : q < n
   ·have hqx : q < xs.length := by have := HL.out; omega
    obtain ⟨ad, c, e0, hcl, hK, hcc⟩ := e_at HR.out q (marked_at mark50 xs q hqx)
    cases e0
    obtain ⟨x, hx⟩ : ∃ x, x = xs[q] := ⟨_, rfl⟩
    have hf := HF.out q hqx
    rw [← hx] at hK hf
    obtain ⟨A5, c5, A6, c6, rfl, ⟨l5, g5⟩, l6, g6⟩ := k50w_open (hK.1 x rfl)
    have h5 : wr.cell? ⟨(ad.add (q * 7)).block, (ad.add (q * 7)).off + 5, none⟩ = some (.slice A5 x.f5.length c5) := by rw [← add_field _ _ 5 (by omega)]; exact hcc 5 _ rfl
    have h6 : wr.cell? ⟨(ad.add (q * 7)).block, (ad.add (q * 7)).off + 6, none⟩ = some (.slice A6 x.f6.length c6) := by rw [← add_field _ _ 6 (by omega)]; exact hcc 6 _ rfl
    have G5 := Az.mk g5
    have G6 := Az.mk g6
    have L5 := Az.mk l5
    have L6 := Az.mk l6
    have F5 := Az.mk hf.1
    have F6 := Az.mk hf.2
    have HLt := Az.mk hlt
    have HX := Az.mk hx
    have hm5 : x.f5.length ≤ 9223372036854775807 := by omega
    have hm6 : x.f6.length ≤ 9223372036854775807 := by omega
    clear hcl hK hcc hf g5 g6 l5 l6 hx
    go_wp2_with (first | (go_at_call 61; (with_reducible refine (spareI A5 c5 x.f5.length x.f5 _ rfl F5.out G5.out L5.out).mono ?_); rintro e w2 ⟨rfl, rfl⟩) | (go_at_call 61; (with_reducible refine (spareI A6 c6 x.f6.length x.f6 _ rfl F6.out G6.out L6.out).mono ?_); rintro e w2 ⟨rfl, rfl⟩))
    go_roundw
    case rel => exact ⟨q + 1, by have := HLt.out; omega, by go_num, by first | trivial | rfl⟩
    case measure => exact Nat.sub_lt_sub_left (show q < m from HLt.out) (show q < q + 1 from Nat.lt_succ_self q)
   ·obtain ⟨ad, c, e0, hcl, hK, hcc⟩ := e_at HR.out q (marked_past mark50 xs q (by have := HL.out; omega) (by have := HL.out; omega))
    cases e0
    obtain ⟨rfl, _⟩ := hK.2 mark50 rfl
    have h0 : wr.cell? (ad.add (q * 7)) = some (.int .i64 (-78)) := hcc 0 _ rfl
    have h4 : wr.cell? ⟨(ad.add (q * 7)).block, (ad.add (q * 7)).off + 4, none⟩ = some (.int .i64 0) := by rw [← add_field _ _ 4 (by omega)]; exact hcc 4 _ rfl
    have HLt := Az.mk hlt
    clear hcl hK hcc
    go_wp2_with fail
    go_roundw
    case rel => exact ⟨q + 1, by have := HLt.out; omega, by go_num, by first | trivial | rfl⟩
    case measure => exact Nat.sub_lt_sub_left (show q < m from HLt.out) (show q < q + 1 from Nat.lt_succ_self q)
  ·obtain rfl : q = m := by omega
   go_wp2_with fail
   go_ret
   exact ⟨rfl, rfl⟩
set_option maxHeartbeats 8000000 in
set_option maxRecDepth 100000 in
theorem spareprogram_any (G : Int) (A0 : Option Addr) (c0 n : Nat) (fs : List S46) (w : World) (hn : n = fs.length) (hr : e46.C w A0 (marked mark46 fs).length (marked mark46 fs)) (hc : (marked mark46 fs).length ≤ c0) (hl : fs.length ≤ 3000000000000) (hfit : ∀ (q : Nat) (h : q < fs.length), fs[q].f3.length ≤ 1600000000000 ∧ ∀ (j : Nat) (h2 : j < fs[q].f3.length), fs[q].f3[j].f5.length ≤ 17592186044416 ∧ fs[q].f3[j].f6.length ≤ 17592186044416) :
  Calls Tryd.prog 15 #[.agg #[.int .i64 G, .slice A0 n c0]] w fun e w' => e = .returned (.bool true) ∧ Below w.heap.size w w' := by
 obtain ⟨m, hm⟩ : ∃ m, m = n + 64 := ⟨_, rfl⟩
 have hlen : (marked mark46 fs).length = m := by rw [marked_len]; omega
 have hw : wrap64 ((n : Int) + 64) = (m : Int) := by rw [wrap_in (by omega) (by omega)]; omega
 have HL : Az (n = fs.length ∧ m = n + 64 ∧ n ≤ 3000000000000) := ⟨hn, hm, by omega⟩
 have HR0 := Az.mk hr
 have HF := Az.mk hfit
 have HB := Az.mk (Below.refl w.heap.size w)
 have hm0 : n ≤ 9223372036854775807 := by omega
 have hm1 : m ≤ 9223372036854775807 := by omega
 obtain ⟨i0, hi0, _, hsz, _⟩ := info_parts info46
 have hcut := cut_cap (P := Tryd.prog) 22 46 .i64 Tryd.underlying22 hi0 A0 n c0 (m : Int) (Int.natCast_nonneg m) (by omega)
 rw [Int.toNat_natCast] at hcut
 have HCut := Az.mk hcut
 clear hr hc hl hfit hm hn hlen hi0 hsz hcut
 go_enter Tryd.func15, Tryd.ntmps15
 have hcut := HCut.out
 go_wp2_with ((with_reducible refine gate_dst (N := 1) rfl ?_); refine box_event ?hg (N := 1) ?hd (cs := #[.int .i64 G, .slice A0 n c0]) (t := 24) ?hr ?_; (case hd => rfl); (case hg => rfl); (case hr => first | (go_simp; done) | (go_simp; rfl)); intro g1 hg w1 hbox hb; have G1 : Az (w.heap.size ≤ g1) := ⟨by have := HB.out.size; omega⟩; replace HB := Az.mk (HB.out.trans (hb.mono HB.out.size)); have BK1 := Az.mk hbox; clear hg hbox hb; have z1 : w1.cell? ⟨g1, 1, none⟩ = some (.slice A0 n c0) := (bZ BK1.out 1).trans rfl)
 clear hcut hw
 have HR := Az.mk (Kd.C_below HR0.out HB.out)
 go_loopw [4] (fun v4 w' => ∃ q : Nat, q ≤ m ∧ v4 = .int .i64 (q : Int) ∧ w' = w1) (fun i _ => m - (intOf i).toNat)
 case atStart => exact ⟨0, Nat.zero_le _, rfl, rfl⟩
 case round =>
  obtain ⟨q, hq, rfl, rfl⟩ := hrel
  by_cases hlt : q < m
  ·have hwp : wrap64 ((q : Int) + 1) = (q : Int) + 1 := wrap_in (by omega) (by have := HL.out; omega)
   by_cases hlx : q < n
   ·have hqx : q < fs.length := by have := HL.out; omega
    obtain ⟨ad, c, e0, hcl, hK, hcc⟩ := e_at HR.out q (marked_at mark46 fs q hqx)
    cases e0
    obtain ⟨x, hx⟩ : ∃ x, x = fs[q] := ⟨_, rfl⟩
    have hf := HF.out q hqx
    rw [← hx] at hK hf
    obtain ⟨A3, c3, rfl, l3, g3⟩ := k46w_open (hK.1 x rfl)
    have h3 : wr.cell? ⟨(ad.add (q * 4)).block, (ad.add (q * 4)).off + 3, none⟩ = some (.slice A3 x.f3.length c3) := by rw [← add_field _ _ 3 (by omega)]; exact hcc 3 _ rfl
    have G3 := Az.mk g3
    have L3 := Az.mk l3
    have F3 := Az.mk hf
    have HLt := Az.mk hlt
    have HX := Az.mk hx
    have hge : ¬ n ≤ q := by omega
    have hm3 : x.f3.length ≤ 9223372036854775807 := by have := hf.1; omega
    clear hcl hK hcc hf g3 l3 hx
    go_wp2_with (go_at_call 33; refine (sparecode_any A3 c3 x.f3.length x.f3 _ rfl G3.out L3.out F3.out.1 F3.out.2).mono ?_; rintro e w2 ⟨rfl, rfl⟩)
    go_roundw
    case rel => exact ⟨q + 1, by have := HLt.out; omega, by go_num, by first | trivial | rfl⟩
    case measure => exact Nat.sub_lt_sub_left (show q < m from HLt.out) (show q < q + 1 from Nat.lt_succ_self q)
   ·have hge : n ≤ q := by omega
    obtain ⟨ad, c, e0, hcl, hK, hcc⟩ := e_at HR.out q (marked_past mark46 fs q (by have := HL.out; omega) (by have := HL.out; omega))
    cases e0
    obtain ⟨rfl, _⟩ := hK.2 mark46 rfl
    have h2 : wr.cell? ⟨(ad.add (q * 4)).block, (ad.add (q * 4)).off + 2, none⟩ = some (.int .i64 (-77)) := by rw [← add_field _ _ 2 (by omega)]; exact hcc 2 _ rfl
    have h3 : wr.cell? ⟨(ad.add (q * 4)).block, (ad.add (q * 4)).off + 3, none⟩ = some (.slice none 0 0) := by rw [← add_field _ _ 3 (by omega)]; exact hcc 3 _ rfl
    have HLt := Az.mk hlt
    clear hcl hK hcc
    go_wp2_with fail
    go_roundw
    case rel => exact ⟨q + 1, by have := HLt.out; omega, by go_num, by first | trivial | rfl⟩
    case measure => exact Nat.sub_lt_sub_left (show q < m from HLt.out) (show q < q + 1 from Nat.lt_succ_self q)
  ·obtain rfl : q = m := by omega
   go_wp2_with fail
   go_ret
   exact ⟨rfl, HB.out⟩
theorem works_ev : Ev (fun k => fuguelaw01_works.f k) true :=
 Ev.of (fun k => fuguelaw01_works.mono k) (show fuguelaw01_works.f 12 = some true by decide +kernel)
theorem in_of_ok {fs : List S46} (h : Ok22 fs) : In24 fs := by
 obtain ⟨h1, h2⟩ := h
 have e46 : Tryd.prog.bytesOf 46 = 48 := by kernel_rfl
 have e50 : Tryd.prog.bytesOf 50 = 88 := by kernel_rfl
 have e3 : Tryd.prog.bytesOf 3 = 8 := by kernel_rfl
 rw [e46] at h1
 refine ⟨by omega, fun f hf => ?_⟩
 obtain ⟨_, _, _, h3, h4⟩ := h2 f hf
 rw [e50] at h3
 refine ⟨by omega, fun x hx => ?_⟩
 obtain ⟨_, _, _, _, _, ⟨h5, _⟩, ⟨h6, _⟩⟩ := h4 x hx
 rw [e3] at h5 h6
 exact ⟨by omega, by omega⟩
theorem fit_of_in {fs : List S46} (h : In24 fs) : fs.length ≤ 9223372036854775807 ∧ ∀ f ∈ fs, Fit46 f :=
 ⟨by have := h.1; omega, fun f hf => ⟨by have := (h.2 f hf).1; omega, fun x hx => ⟨by have := ((h.2 f hf).2 x hx).1; omega, by have := ((h.2 f hf).2 x hx).2; omega⟩⟩⟩
theorem fits_of_in {fs : List S46} (h : In24 fs) : ∀ (q : Nat) (hq : q < fs.length), fs[q].f3.length ≤ 1600000000000 ∧ ∀ (j : Nat) (h2 : j < fs[q].f3.length), fs[q].f3[j].f5.length ≤ 17592186044416 ∧ fs[q].f3[j].f6.length ≤ 17592186044416 :=
 fun q hq => ⟨by have := (h.2 _ (List.getElem_mem hq)).1; omega, fun j h2 => (h.2 _ (List.getElem_mem hq)).2 _ (List.getElem_mem h2)⟩
section
variable {G : Int} {A A2 : Option Addr} {c c2 n : Nat} {fs : List S46} {w : World}
theorem c_works (hT : Tab w) : Calls Tryd.prog 10 #[] w fun e w' => e = .returned (.bool true) ∧ Below w.heap.size w w' := by
 obtain ⟨k, hk⟩ := works_ev.rounds
 exact fuguelaw01_works.calls k true w hk hT
theorem c_eq (hi : In24 fs) (hn : n = fs.length) (hr : Kd.C k46 w A n fs) (hc : n ≤ c) (hr2 : Kd.C k46 w A2 n fs) (hc2 : n ≤ c2) : Calls Tryd.prog 14 #[.agg #[.int .i64 G, .slice A n c], .agg #[.int .i64 G, .slice A2 n c2]] w fun e w' => e = .returned (.bool true) ∧ Below w.heap.size w w' := by
 subst hn
 have h := eqprog_ev G fs G fs (fit_of_in hi).1 (fit_of_in hi).2
 rw [decide_eq_true ⟨rfl, rfl⟩] at h
 obtain ⟨k, hk⟩ := h.rounds
 exact fugueref00_EqProgram.calls k G A c fs G A2 c2 fs true rfl w hr hc hr2 hc2 hk
theorem c_wide (hi : In24 fs) (hn : n = fs.length) (hr : Kd.C k46 w A n fs) (hc : n ≤ c) : Calls Tryd.prog 11 #[.agg #[.int .i64 G, .slice A n c]] w fun e w' => ∃ A c, e = .returned (.agg #[.int .i64 G, .slice A n c]) ∧ fSw w' w.heap.size (fun _ => True) (.slice A (marked mark46 fs).length c) (marked mark46 fs) ∧ Below w.heap.size w w' := by
 subst hn
 exact wideprogram_any G A c _ fs w rfl hr hc (by have := hi.1; omega) (fits_of_in hi)
theorem c_spare {base : Nat} {ok : Nat → Prop} (hi : In24 fs) (hn : n = fs.length) (hS : fSw w base ok (.slice A (marked mark46 fs).length c) (marked mark46 fs)) : Calls Tryd.prog 15 #[.agg #[.int .i64 G, .slice A n c]] w fun e w' => e = .returned (.bool true) ∧ Below w.heap.size w w' := by
 have h := Kd.S_reads' hS
 exact spareprogram_any G A c n fs w hn h.2.2 h.2.1 (by have := hi.1; omega) (fits_of_in hi)
theorem wide_reads {base : Nat} {ok : Nat → Prop} (hn : n = fs.length) (hS : fSw w base ok (.slice A (marked mark46 fs).length c) (marked mark46 fs)) : Kd.C k46 w A n fs ∧ n ≤ c := by
 subst hn
 have h := Kd.S_reads' hS
 exact ⟨wide_C46 h.2.2, by have := h.2.1; rw [marked_len] at this; omega⟩
theorem plain_reads {base : Nat} {ok : Nat → Prop} (hn : n = fs.length) (hS : Kd.S k46 46 w base ok (.slice A n c) fs) : Kd.C k46 w A n fs ∧ n ≤ c := by
 subst hn
 exact ⟨(Kd.S_reads' hS).2.2, (Kd.S_reads' hS).2.1⟩
theorem c_copy (hi : In24 fs) (hn : n = fs.length) (hr : Kd.C k46 w A n fs) (hc : n ≤ c) : Calls Tryd.prog 19 #[.agg #[.int .i64 G, .slice A n c]] w fun e w' => ∃ A c, e = .returned (.agg #[.int .i64 G, .slice A n c]) ∧ (Kd.C k46 w' A n fs ∧ n ≤ c) ∧ Below w.heap.size w w' := by
 subst hn
 obtain ⟨k, hk⟩ := (copyprog_ev G fs hi).rounds
 refine (fugueref00_CopyProgram.calls k G A c fs G fs w hr hc hk).mono ?_
 rintro e w' ⟨v, he, hR, hb⟩
 obtain ⟨A', c', rfl, hl, hC⟩ := Kd.R_reads hR
 exact ⟨A', c', he, ⟨hC, hl⟩, hb⟩
end
end Go.Proofs.YteonppgdmhakoaaDoor.PC
namespace Go.Proofs.YteonppgdmhakoaaDoor.PC
open Go.RowKit Go.Proofs.YteonppgdmhakoaaDoorW.PrintWords Go.Proofs.YteonppgdmhakoaaDoorW.PrintLast Go.Proofs.YteonppgdmhakoaaDoorW.PrintMore
attribute [local go_sem] max2_int min2_int max_two min_two max_three min_three max_four min_four
set_option linter.unusedVariables false
set_option linter.unusedSimpArgs false
end Go.Proofs.YteonppgdmhakoaaDoor.PC
namespace Go.Proofs.YteonppgdmhakoaaDoor.PC
open Go.RowKit Go.Proofs.YteonppgdmhakoaaDoorW.PrintWords Go.Proofs.YteonppgdmhakoaaDoorW.PrintLast Go.Proofs.YteonppgdmhakoaaDoorW.PrintMore
attribute [local go_sem] max2_int min2_int max_two min_two max_three min_three max_four min_four
set_option linter.unusedVariables false
set_option linter.unusedSimpArgs false
def fugueref00_EqBytes.l0 : Nat → List Int → List Int → Int → Option (Bool)
 | 0, _, _, _ => none
 | k + 1, x0, x1, x5 => if x5 < (x0.length : Int) then (if 0 ≤ x5 then (if x5 < (x1.length : Int) then (if (rd x0 x5) = (rd x1 x5) then (fugueref00_EqBytes.l0 k x0 x1 (wrap64 (x5 + 1))) else (some false)) else (none)) else (none)) else (some true)
def fugueref00_EqBytes.f (k : Nat) (l0 : List Int) (l1 : List Int) : Option (Bool) := if (l0.length : Int) = (l1.length : Int) then (fugueref00_EqBytes.l0 k l0 l1 0) else (some false)
set_option maxHeartbeats 8000000 in
set_option maxRecDepth 100000 in
theorem fugueref00_EqBytes.calls (k : Nat) (A0 : Option Addr) (c0 : Nat) (l0 : List Int) (A1 : Option Addr) (c1 : Nat) (l1 : List Int) (r : Bool) (hr_ : r = true) (w : World) (hr0 : Kd.C (Kd.int .u8) w A0 l0.length l0) (hc0 : l0.length ≤ c0) (hr1 : Kd.C (Kd.int .u8) w A1 l1.length l1) (hc1 : l1.length ≤ c1) (h : fugueref00_EqBytes.f k l0 l1 = some r) :
  Calls Tryd.prog 22 #[.slice A0 l0.length c0, .slice A1 l1.length c1] w fun e w' => e = .returned (.bool r) ∧ Drawn0 w w' := by
 have HR0 := Az.mk hr0
 have HC0 := Az.mk hc0
 clear hr0 hc0
 have HR1 := Az.mk hr1
 have HC1 := Az.mk hc1
 clear hr1 hc1
 have H : (if (l0.length : Int) = (l1.length : Int) then (fugueref00_EqBytes.l0 k l0 l1 0) else (some false)) = some r := h
 clear h
 by_cases c3 : (l0.length : Int) = (l1.length : Int)
 ·rw [if_pos c3] at H
  have c3b0 : ((l0.length : Int) == (l1.length : Int)) = true := beq_iff_eq.mpr c3
  have c3b1 : ((l0.length : Int) != (l1.length : Int)) = false := bne_eq_false_iff_eq.mpr c3
  have c3b2 : (l0.length == l1.length) = true := by first | simpa using c3 | (simp at c3 ⊢; omega)
  clear c3
  have H' := Az.mk H
  clear H
  go_enter Tryd.func22, Tryd.ntmps22
  go_wp2
  repeat (go_quiet (fail); try go_wp2)
  go_loopg [5] k (fun kq v5 w' => ∃ (x5_1 : Int), v5 = .int .i64 x5_1 ∧ Az (fugueref00_EqBytes.l0 kq l0 l1 x5_1 = some r) ∧ Az (kq ≤ k) ∧ Drawn0 w w')
  case atStart => exact ⟨(0), (by first | rfl | (simp; done) | (simp [*]; done)), H', ⟨Nat.le_refl _⟩, by repeat (first | exact Drawn0.refl _ | apply Drawn0.step)⟩
  case round =>
   clear H'
   try clear c1
   try clear c2
   try clear p2
   try clear c3
   try clear c3b0
   try clear c3b1
   try clear c3b2
   obtain ⟨x5_1, rfl, HA, HK1, ⟨m1, rfl⟩⟩ := hrel
   cases gk with
   | zero => exact absurd HA.out (by simp [fugueref00_EqBytes.l0])
   | succ k1 =>
    have H := HA.out
    clear HA
    simp only [fugueref00_EqBytes.l0] at H
    by_cases c4 : x5_1 < (l0.length : Int)
    ·rw [if_pos c4] at H
     have c4b0 : decide (x5_1 < (l0.length : Int)) = true := decide_eq_true c4
     clear c4
     by_cases c5 : 0 ≤ x5_1
     ·rw [if_pos c5] at H
      have c5b0 : decide (0 ≤ x5_1) = true := decide_eq_true c5
      clear c5
      by_cases c6 : x5_1 < (l1.length : Int)
      ·rw [if_pos c6] at H
       have c6b0 : decide (x5_1 < (l1.length : Int)) = true := decide_eq_true c6
       clear c6
       by_cases c7 : (rd l0 x5_1) = (rd l1 x5_1)
       ·rw [if_pos c7] at H
        have c7b0 : ((rd l0 x5_1) == (rd l1 x5_1)) = true := beq_iff_eq.mpr c7
        have c7b1 : ((rd l0 x5_1) != (rd l1 x5_1)) = false := bne_eq_false_iff_eq.mpr c7
        clear c7
        have H' := Az.mk H
        clear H
        have p535 : 0 ≤ (x5_1 : Int) := of_decide_eq_true (by first | (with_reducible assumption) | assumption)
        have q535 : x5_1 < (l0.length : Int) := of_decide_eq_true (by first | (with_reducible assumption) | assumption)
        obtain ⟨ad535, e535, hx535_0⟩ := Kd.at_int HR0.out x5_1 p535 q535
        cases e535
        replace p535 := eq_true p535
        replace q535 := eq_true q535
        have p536 : 0 ≤ (x5_1 : Int) := of_decide_eq_true (by first | (with_reducible assumption) | assumption)
        have q536 : x5_1 < (l1.length : Int) := of_decide_eq_true (by first | (with_reducible assumption) | assumption)
        obtain ⟨ad536, e536, hx536_0⟩ := Kd.at_int HR1.out x5_1 p536 q536
        cases e536
        replace p536 := eq_true p536
        replace q536 := eq_true q536
        go_wp2
        repeat (go_quiet (fail); try go_wp2)
        go_roundg k1
        case measure => have := HK1.out; omega
        case rel => exact ⟨(wrap64 (x5_1 + 1)), (by first | rfl | (simp; done) | (simp [*]; done)), H', ⟨by have := HK1.out; omega⟩, by repeat (first | exact Drawn0.refl _ | apply Drawn0.step)⟩
       ·rw [if_neg c7] at H
        rw [Option.some.injEq] at H; subst H; cases hr_
      ·rw [if_neg c6] at H
       exact absurd H (by simp)
     ·rw [if_neg c5] at H
      exact absurd H (by simp)
    ·rw [if_neg c4] at H
     have c4b0 : decide (x5_1 < (l0.length : Int)) = false := decide_eq_false c4
     clear c4
     obtain rfl := Option.some.inj H
     go_wp2
     repeat (go_quiet (fail); try go_wp2)
     go_ret
     exact ⟨by first | rfl | (simp; done) | (simp [*]; done), by repeat (first | exact Drawn0.refl _ | apply Drawn0.step)⟩
 ·rw [if_neg c3] at H
  rw [Option.some.injEq] at H; subst H; cases hr_
end Go.Proofs.YteonppgdmhakoaaDoor.PC
namespace Go.Proofs.YteonppgdmhakoaaDoor.PC
open Go.RowKit Go.Proofs.YteonppgdmhakoaaDoorW.PrintWords Go.Proofs.YteonppgdmhakoaaDoorW.PrintLast Go.Proofs.YteonppgdmhakoaaDoorW.PrintMore
set_option linter.unusedVariables false
set_option linter.unusedSimpArgs false
theorem numB_cons (x : Int) (m : Nat) : numB x (m + 1) = byteI x :: numB (x / 256) m := by
 unfold numB
 rw [List.range_succ_eq_map, List.map_cons, List.map_map]
 congr 1
 ·simp
 ·apply List.map_congr_left
  intro i _
  show byteI (x / 2 ^ (8 * (i + 1))) = byteI (x / 256 / 2 ^ (8 * i))
  rw [Int.ediv_ediv_of_nonneg (by omega), show 8 * (i + 1) = 8 + 8 * i by omega, Int.pow_add]
  rfl
theorem numB_wrap (N : Int) (m : Nat) (hm : m ≤ 8) : numB (IntKind.u64.wrap N) m = numB N m := by
 unfold numB
 apply List.map_congr_left
 intro i hi
 have hi8 : i < 8 := by have := List.mem_range.1 hi; omega
 have e : IntKind.u64.wrap N = N % 18446744073709551616 := by simp [IntKind.wrap, IntKind.bits, IntKind.signed]
 rw [e]
 unfold byteI
 rcases i with _ | _ | _ | _ | _ | _ | _ | _ | i
 ·show N % 18446744073709551616 / 1 % 256 = N / 1 % 256; omega
 ·show N % 18446744073709551616 / 256 % 256 = N / 256 % 256; omega
 ·show N % 18446744073709551616 / 65536 % 256 = N / 65536 % 256; omega
 ·show N % 18446744073709551616 / 16777216 % 256 = N / 16777216 % 256; omega
 ·show N % 18446744073709551616 / 4294967296 % 256 = N / 4294967296 % 256; omega
 ·show N % 18446744073709551616 / 1099511627776 % 256 = N / 1099511627776 % 256; omega
 ·show N % 18446744073709551616 / 281474976710656 % 256 = N / 281474976710656 % 256; omega
 ·show N % 18446744073709551616 / 72057594037927936 % 256 = N / 72057594037927936 % 256; omega
 ·omega
theorem wrap_range (N : Int) : 0 ≤ IntKind.u64.wrap N ∧ IntKind.u64.wrap N ≤ 18446744073709551615 := by
 have e : IntKind.u64.wrap N = N % 18446744073709551616 := by simp [IntKind.wrap, IntKind.bits, IntKind.signed]
 rw [e]
 omega
theorem add_l0 (m : Nat) (hm : m ≤ 8) : ∀ (d i : Nat) (bs : List Int) (x : Int), i + d = m → 0 ≤ x → x ≤ 18446744073709551615 → bs.length + d ≤ 100000000000000 → Ev (fun k => fugueref01_add.l0 k bs x (m : Int) (i : Int)) (bs ++ numB x d) := by
 intro d
 induction d with
 | zero =>
  intro i bs x hi h0 h1 hl
  refine Ev.step (f := fun _ => some bs) (fun k => by rw [fugueref01_add.l0, if_neg (by omega)]) ?_
  simpa [numB] using Ev.now bs
 | succ d ih =>
  intro i bs x hi h0 h1 hl
  have hw := Az.mk (wrap_succ i (by omega))
  have e1 : Int.tmod x 256 % 256 = byteI x := by rw [Int.tmod_eq_emod_of_nonneg h0]; unfold byteI; omega
  refine Ev.step (fun k => by rw [fugueref01_add.l0, if_pos (by omega), if_pos (by omega), e1, IntWalk.u64_quo x 256 ⟨h0, h1, by omega⟩, hw.out]) ?_
  have h2 := ih (i + 1) (bs ++ [byteI x]) (x / 256) (by omega) (by omega) (by omega) (by rw [List.length_append, List.length_singleton]; omega)
  rw [numB_cons, show bs ++ byteI x :: numB (x / 256) d = bs ++ [byteI x] ++ numB (x / 256) d by simp]
  exact h2
theorem add_ev (bs : List Int) (N : Int) (m : Nat) (hm : m ≤ 8) (hl : bs.length + m ≤ 100000000000000) : Ev (fun k => fugueref01_add.f k bs (IntKind.u64.wrap N) (m : Int)) (bs ++ numB N m) := by
 have h := add_l0 m hm m 0 bs (IntKind.u64.wrap N) (by omega) (wrap_range N).1 (wrap_range N).2 hl
 rw [numB_wrap N m hm] at h
 exact h
theorem list_ev (bs l : List Int) (hl : bs.length + l.length + 1 ≤ 100000000000000) : Ev (fun k => fugueref01_list.f k bs l) (bs ++ (byteI l.length :: l.map byteI)) := by
 have gen : ∀ (d i : Nat), l.length - i = d → i ≤ l.length → ∀ E : List Int, E.length + d ≤ 100000000000000 → Ev (fun k => fugueref01_list.l0 k E l (i : Int)) (E ++ (l.drop i).map byteI) := by
  intro d
  induction d with
  | zero =>
   intro i hd hi E hE
   refine Ev.step (f := fun _ => some E) (fun k => by rw [fugueref01_list.l0, if_neg (by omega)]) ?_
   rw [List.drop_eq_nil_of_le (by omega)]
   simpa using Ev.now E
  | succ d ih =>
   intro i hd hi E hE
   have hx : i < l.length := by omega
   have hw := Az.mk (wrap_succ i (by omega))
   refine Ev.step (fun k => by rw [fugueref01_list.l0, if_pos (by omega), if_pos (by omega), if_pos (by omega), rd_get l i hx, hw.out]) ?_
   have h2 := ih (i + 1) (by omega) (by omega) (E ++ [byteI l[i]]) (by rw [List.length_append, List.length_singleton]; omega)
   rw [List.drop_eq_getElem_cons hx, List.map_cons, show E ++ byteI l[i] :: (l.drop (i + 1)).map byteI = E ++ [byteI l[i]] ++ (l.drop (i + 1)).map byteI by simp]
   exact h2
 unfold fugueref01_list.f
 simp only [if_pos (show bs.length < 140737488355328 by omega)]
 have h := gen l.length 0 rfl (Nat.zero_le _) (bs ++ [byteI l.length]) (by rw [List.length_append, List.length_singleton]; omega)
 rw [List.drop_zero] at h
 rw [show bs ++ byteI l.length :: l.map byteI = bs ++ [byteI l.length] ++ l.map byteI by simp]
 exact h
theorem prS_size (op : Int) : (prS op).size = (partsOf op.toNat).length := by unfold prS; simp [ByteArray.size]
theorem prS_bt (op : Int) (j : Nat) (pk : PK) (h : (partsOf op.toNat)[j]? = some pk) : bt (prS op) (j : Int) = (chOf pk : Int) := by
 have hj := (List.getElem?_eq_some_iff.1 h).1
 have hs : ((j : Int)).toNat < (prS op).size := by rw [prS_size, Int.toNat_natCast]; exact hj
 unfold bt
 rw [dif_pos hs]
 have e : (prS op)[((j : Int)).toNat]'hs = UInt8.ofNat (chOf pk) := by
  show (prS op).data[((j : Int)).toNat]'hs = _
  unfold prS
  simp only [Int.toNat_natCast, List.getElem_toArray, List.getElem_map]
  congr 2
  rw [List.getElem?_eq_getElem hj] at h
  injection h
 rw [e]
 cases pk <;> rfl
theorem tab_of (op j : Nat) (pk : PK) (h : (partsOf op)[j]? = some pk) : (pk = .int → tabL.getD op 0 = 8) ∧ (pk = .func ∨ pk = .jump → tabL.getD op 0 = 2) ∧ (pk = .fields ∨ pk = .field ∨ pk = .glob → tabL.getD op 0 = 1) := by
 unfold partsOf at h
 rcases op with _ | _ | _ | _ | _ | _ | _ | _ | _ | _ | _ | _ | _ | _ | _ | _ | _ | _ | op <;> rcases j with _ | _ | _ | j <;> simp at h <;> subst h <;> simp [tabL]
theorem numB_one (x : Int) : numB x 1 = [byteI x] := by unfold numB; simp
theorem post_of {Wz W w' : World} {e : Ending} {v v' : Value} {bs bs2 r : List Int} (hO : kB.R 5 W Wz.heap.size (fun _ => True) v bs) (he : e = .returned v') (hR : kB.R 5 w' Wz.heap.size (fun k => some k = v.ownBlock ∨ W.heap.size ≤ k) v' r) (hr : r = bs ++ bs2) (hB : Below Wz.heap.size Wz w') (hK : Kept W w' (fun k => some k = v.ownBlock)) : PutPost Wz W bs bs2 e w' :=
 ⟨v', he, hr ▸ Kd.R_mono hR (fun _ _ => trivial), hB, fun g cs t m ht hg => (hK.2 g (blk_lt hg) (fun e => by
  obtain ⟨cells, hc⟩ := Kd.R_typed hO g e.symm
  rw [hc] at hg
  injection hg with hg
  injection hg with _ h2 _
  exact ht h2.symm)).trans hg⟩
theorem radd_any (v : Value) (bs : List Int) (N mi z : Int) (m : Nat) (hmi : mi = (m : Int)) (hz : IntKind.u64.wrap N = z) (Wz W : World) (hWz : Below Wz.heap.size Wz W) (hO : kB.R 5 W Wz.heap.size (fun _ => True) v bs) (hm : m ≤ 8) (hl : bs.length + m ≤ 100000000000000) :
  Calls Tryd.prog 39 #[v, .int .u64 z, .int .i64 mi] W fun e w' => PutPost Wz W bs (numB N m) e w' := by
 subst hmi
 subst hz
 obtain ⟨k, hk⟩ := (add_ev bs N m hm hl).rounds
 refine (fugueref01_add.calls k (fun k => some k = v.ownBlock) v bs _ _ _ Wz W hWz (Kd.R_tight rfl hO) hk).mono ?_
 rintro e w' ⟨v', he, hR, hB, hK⟩
 exact post_of hO he hR rfl hB hK
theorem rlay_any (v : Value) (bs l : List Int) (A : Option Addr) (c n : Nat) (Wz W : World) (hn : n = l.length) (hWz : Below Wz.heap.size Wz W) (hO : kB.R 5 W Wz.heap.size (fun _ => True) v bs) (hA : (Kd.int .i64).C Wz A l.length l) (hc : l.length ≤ c) (hl : bs.length + l.length + 1 ≤ 100000000000000) :
  Calls Tryd.prog 86 #[v, .slice A n c] W fun e w' => PutPost Wz W bs (byteI l.length :: l.map byteI) e w' := by
 subst hn
 obtain ⟨k, hk⟩ := (list_ev bs l hl).rounds
 refine (fugueref01_list.calls k (fun k => some k = v.ownBlock) v bs A c l _ Wz W hWz (Kd.R_tight rfl hO) (fun W2 h2 => (Kd.heap_int .i64).C (fun k hlt => (h2.2 k (Nat.lt_of_lt_of_le hlt hWz.size) (fun e => by have := Kd.R_base hO k e.symm; omega)).trans (hWz.block k hlt)) hA) hc hk).mono ?_
 rintro e w' ⟨v', he, hR, hB, hK⟩
 exact post_of hO he hR rfl hB hK
def putD (x : S50) : PK → List Int
 | .R => [byteI x.f1]
 | .S => [byteI x.f2]
 | .T => [byteI x.f3]
 | .args | .vals => byteI x.f5.length :: x.f5.map byteI
 | .rets => byteI x.f6.length :: x.f6.map byteI
 | .int => numB x.f4 8
 | .func | .jump => numB x.f4 2
 | _ => [byteI x.f4]
theorem putB_D (x : S50) (j : Nat) (pk : PK) (h : (partsOf x.f0.toNat)[j]? = some pk) : putB x pk = putD x pk := by
 have ht := tab_of x.f0.toNat j pk h
 cases pk <;> first | rfl | (show numB x.f4 (tabL.getD x.f0.toNat 0).toNat = _; first | (rw [ht.1 rfl]; rfl) | (rw [ht.2.1 (.inl rfl)]; rfl) | (rw [ht.2.1 (.inr rfl)]; rfl) | (rw [ht.2.2 (.inl rfl)]; exact numB_one _) | (rw [ht.2.2 (.inr (.inl rfl))]; exact numB_one _) | (rw [ht.2.2 (.inr (.inr rfl))]; exact numB_one _))
set_option maxHeartbeats 8000000 in
set_option maxRecDepth 100000 in
theorem rlaid_any (v : Value) (bs : List Int) (x : S50) (A5 A6 : Option Addr) (c5 c6 n5 n6 : Nat) (Wz W : World) (hn5 : n5 = x.f5.length) (hn6 : n6 = x.f6.length) (hWz : Below Wz.heap.size Wz W) (hO : kB.R 5 W Wz.heap.size (fun _ => True) v bs) (h5 : (Kd.int .i64).C Wz A5 x.f5.length x.f5) (l5 : x.f5.length ≤ c5) (h6 : (Kd.int .i64).C Wz A6 x.f6.length x.f6) (l6 : x.f6.length ≤ c6) (hl : bs.length + (instrB x).length ≤ 100000000000000) :
  Calls Tryd.prog 40 #[v, .agg #[.int .i64 x.f0, .int .i64 x.f1, .int .i64 x.f2, .int .i64 x.f3, .int .i64 x.f4, .slice A5 n5 c5, .slice A6 n6 c6]] W fun e w' => PutPost Wz W bs (instrB x) e w' := by
 obtain ⟨P, hP⟩ : ∃ P, P = (partsOf x.f0.toNat).length := ⟨_, rfl⟩
 obtain ⟨s, hs⟩ : ∃ s, s = prS x.f0 := ⟨_, rfl⟩
 have hsz : s.size = P := by rw [hs, prS_size, hP]
 have HPl := Az.mk hP
 have HS := Az.mk hs
 have HN5 := Az.mk hn5
 have HN6 := Az.mk hn6
 have HO := Az.mk hO
 have HWz := Az.mk hWz
 have HB := Az.mk (Below.refl W.heap.size W)
 have H5 := Az.mk h5
 have H6 := Az.mk h6
 have HL5 := Az.mk l5
 have HL6 := Az.mk l6
 have HP3 : Az (P ≤ 3) := ⟨by rw [hP]; exact parts_le _⟩
 have hlb : bs.length + 1 + ((partsOf x.f0.toNat).flatMap (putB x)).length ≤ 100000000000000 := by unfold instrB at hl; rw [List.length_cons] at hl; omega
 have HLb := Az.mk hlb
 have HL : Az ((bs.length + 1) * 1 ≤ 140737488355328) := ⟨by omega⟩
 have hm5 : n5 ≤ 9223372036854775807 := by rw [hn5]; exact Kd.C_max h5
 have hm6 : n6 ≤ 9223372036854775807 := by rw [hn6]; exact Kd.C_max h6
 have hp3 : P ≤ 9223372036854775807 := by have := HP3.out; omega
 obtain ⟨Av, cv, rfl⟩ := Kd.R_slice hO
 clear hP hs hn5 hn6 hO hWz h5 h6 l5 l6 hlb hl
 go_enter Tryd.func40, Tryd.ntmps40
 go_wp2_with (first | ((with_reducible refine gate_dst (N := 3) rfl ?_); refine box_event ?hg (N := 3) ?hd (cs := #[.int .i64 x.f0, .int .i64 x.f1, .int .i64 x.f2, .int .i64 x.f3, .int .i64 x.f4, .slice A5 n5 c5, .slice A6 n6 c6]) (t := 50) ?hr ?_; (case hd => rfl); (case hg => rfl); (case hr => first | (go_simp; done) | (go_simp; rfl)); intro g3 hg w1 hbox hb; have G3 : Az (W.heap.size ≤ g3) := ⟨by have := HB.out.size; omega⟩; replace HB := Az.mk (HB.out.trans (hb.mono HB.out.size)); replace HO := Az.mk (Kd.R_below HO.out hb); replace HWz := Az.mk (HWz.out.trans (hb.mono HWz.out.size)); have BK3 := Az.mk hbox; clear hg hbox hb; have hz0 : w1.cell? ⟨g3, 0, none⟩ = some (.int .i64 x.f0) := (bZ BK3.out 0).trans rfl) | ((with_reducible refine gate_builtin (b := .append) (xs := #[.tmp 7, .tmp 11]) rfl ?_); at_builtin; refine Kd.R_append (Kd.int .u8) (w0 := w1) Wz.heap.size rfl (.tmp 7) (.tmp 11) 33 5 (.int .u8 0) 1 rfl Tryd.underlying33 info5 rfl (by decide) (by omega) (.slice Av bs.length cv) (bs) (x.f0 % 256) [.int .u8 (x.f0 % 256)] (fun _ => True) (fun _ => False) rfl rfl ?aP (fun _ hk => hk.elim) ?aF ?aO ?aB ?aS ?aL ?_; (case aP => exact rfl); (case aB => exact Below.refl _ _); (case aF => exact (fun _ _ => trivial)); (case aO => exact HO.out); (case aS => exact HWz.out.size); (case aL => exact HL.out); intro v1 wv ho hb hg hat; have HBv := Az.mk (HWz.out.trans hb); have HOv := Az.mk ho; have BK3_ := Az.mk ((Keep5.grown HO.out hg) g3 _ _ _ (by decide) BK3.out); have HK := Az.mk ((Keep5.below HB.out).trans (Keep5.grown HO.out hg)); clear BK3 HO HWz hz0 HB; have BK3 := BK3_; clear BK3_; have hz0 : wv.cell? ⟨g3, 0, none⟩ = some (.int .i64 x.f0) := (bZ BK3.out 0).trans rfl; clear ho hb hg hat) | (go_at_call 63; refine (parts_any x.f0 wv).mono ?_; rintro e w2 ⟨he, hb⟩; rw [← HS.out] at he; subst he; replace HBv := Az.mk (HBv.out.trans (hb.mono HBv.out.size)); replace HOv := Az.mk (Kd.R_below HOv.out hb); replace BK3 := Az.mk (kZ BK3.out hb); replace HK := Az.mk (HK.out.trans (Keep5.below hb)); clear hb hz0))
 go_loopw [0, 6] (fun v0 v6 w' => ∃ q : Nat, q ≤ P ∧ v6 = .int .i64 (q : Int) ∧ Az (kB.R 5 w' Wz.heap.size (fun _ => True) v0 (bs ++ [byteI x.f0] ++ ((partsOf x.f0.toNat).take q).flatMap (putB x))) ∧ Az (w'.heap[g3]? = some (.cells #[.int .i64 x.f0, .int .i64 x.f1, .int .i64 x.f2, .int .i64 x.f3, .int .i64 x.f4, .slice A5 n5 c5, .slice A6 n6 c6] 50 (0, 0))) ∧ Az (Below Wz.heap.size Wz w') ∧ Az (Keep5 W w')) (fun _ i _ => P - (intOf i).toNat)
 case atStart => exact ⟨0, Nat.zero_le _, rfl, ⟨by simpa [byteI] using HOv.out⟩, BK3, HBv, HK⟩
 case round =>
  obtain ⟨q, hq, rfl, HO2, BK, HB2, HK2⟩ := hrel
  clear HOv BK3 HBv HK
  obtain ⟨E, hE⟩ : ∃ E, E = bs ++ [byteI x.f0] ++ ((partsOf x.f0.toNat).take q).flatMap (putB x) := ⟨_, rfl⟩
  have HE := Az.mk hE
  rw [← hE] at HO2
  clear hE
  obtain ⟨Ae, ce, e0⟩ := Kd.R_slice HO2.out
  subst e0
  by_cases hlt : q < P
  ·have hwp : wrap64 ((q : Int) + 1) = (q : Int) + 1 := wrap_in (by omega) (by have := HP3.out; omega)
   have hqx : q < (partsOf x.f0.toNat).length := by rw [← HPl.out]; exact hlt
   obtain ⟨pk, hpk⟩ : ∃ pk, pk = (partsOf x.f0.toNat)[q] := ⟨_, rfl⟩
   have hpk2 : (partsOf x.f0.toNat)[q]? = some pk := by rw [hpk]; exact List.getElem?_eq_getElem hqx
   have hD := putB_D x q pk hpk2
   have HM : Az (((partsOf x.f0.toNat).take (q + 1)).flatMap (putB x) = ((partsOf x.f0.toNat).take q).flatMap (putB x) ++ putD x pk) := ⟨by rw [List.take_succ_eq_append_getElem hqx, List.flatMap_append, ← hpk, ← hD]; simp⟩
   have hbt := prS_bt x.f0 q pk hpk2
   rw [← HS.out] at hbt
   have hch : ∀ h : q < s.size, ((s[q]'h).toNat : Int) = (chOf pk : Int) := fun h => by rw [← hbt]; exact bt_at s (q : Int) (by rw [Int.toNat_natCast]; exact h)
   have HLE : Az (E.length + (putD x pk).length ≤ 100000000000000) := ⟨by
    have h1 := HLb.out
    have h2 : (partsOf x.f0.toNat).flatMap (putB x) = ((partsOf x.f0.toNat).take q).flatMap (putB x) ++ (putD x pk ++ ((partsOf x.f0.toNat).drop (q + 1)).flatMap (putB x)) := by
     rw [← List.append_assoc, ← HM.out, ← List.flatMap_append, List.take_append_drop]
    rw [h2] at h1
    rw [HE.out]
    simp only [List.length_append, List.length_singleton] at h1 ⊢
    omega⟩
   have HLE1 : Az ((E.length + 1) * 1 ≤ 140737488355328) := ⟨by have := HLE.out; omega⟩
   have HLt := Az.mk hlt
   have hsq : q < s.size := by rw [hsz]; exact hlt
   clear hpk hpk2 hD hbt hlt
   cases pk
   all_goals
    replace hch : ∀ h : q < s.size, ((s[q]'h).toNat : Int) = _ := hch
    simp only [chOf] at hch
    have hz1 : wr.cell? ⟨g3, 1, none⟩ = some (.int .i64 x.f1) := (bZ BK.out 1).trans rfl
    have hz2 : wr.cell? ⟨g3, 2, none⟩ = some (.int .i64 x.f2) := (bZ BK.out 2).trans rfl
    have hz3 : wr.cell? ⟨g3, 3, none⟩ = some (.int .i64 x.f3) := (bZ BK.out 3).trans rfl
    have hz4 : wr.cell? ⟨g3, 4, none⟩ = some (.int .i64 x.f4) := (bZ BK.out 4).trans rfl
    have hz5 : wr.cell? ⟨g3, 5, none⟩ = some (.slice A5 n5 c5) := (bZ BK.out 5).trans rfl
    have hz6 : wr.cell? ⟨g3, 6, none⟩ = some (.slice A6 n6 c6) := (bZ BK.out 6).trans rfl
    go_wp2_with (first | ((with_reducible refine gate_builtin (b := .append) (xs := #[.tmp 33, .tmp 37]) rfl ?_); at_builtin; refine Kd.R_append (Kd.int .u8) (w0 := wr) Wz.heap.size rfl (.tmp 33) (.tmp 37) 33 5 (.int .u8 0) 1 rfl Tryd.underlying33 info5 rfl (by decide) (by omega) (.slice Ae E.length ce) (E) (x.f1 % 256) [.int .u8 (x.f1 % 256)] (fun _ => True) (fun _ => False) rfl rfl ?aP (fun _ hk => hk.elim) ?aF ?aO ?aB ?aS ?aL ?_; (case aP => exact rfl); (case aB => exact Below.refl _ _); (case aF => exact (fun _ _ => trivial)); (case aO => exact HO2.out); (case aS => exact HB2.out.size); (case aL => exact HLE1.out); intro v1 wv ho hb hg hat; have HBv := Az.mk (HB2.out.trans hb); have HOv := Az.mk ho; have BKv := Az.mk ((Keep5.grown HO2.out hg) g3 _ _ _ (by decide) BK.out); have HKv := Az.mk (HK2.out.trans (Keep5.grown HO2.out hg)); clear ho hb hg hat) | ((with_reducible refine gate_builtin (b := .append) (xs := #[.tmp 41, .tmp 45]) rfl ?_); at_builtin; refine Kd.R_append (Kd.int .u8) (w0 := wr) Wz.heap.size rfl (.tmp 41) (.tmp 45) 33 5 (.int .u8 0) 1 rfl Tryd.underlying33 info5 rfl (by decide) (by omega) (.slice Ae E.length ce) (E) (x.f2 % 256) [.int .u8 (x.f2 % 256)] (fun _ => True) (fun _ => False) rfl rfl ?aP (fun _ hk => hk.elim) ?aF ?aO ?aB ?aS ?aL ?_; (case aP => exact rfl); (case aB => exact Below.refl _ _); (case aF => exact (fun _ _ => trivial)); (case aO => exact HO2.out); (case aS => exact HB2.out.size); (case aL => exact HLE1.out); intro v1 wv ho hb hg hat; have HBv := Az.mk (HB2.out.trans hb); have HOv := Az.mk ho; have BKv := Az.mk ((Keep5.grown HO2.out hg) g3 _ _ _ (by decide) BK.out); have HKv := Az.mk (HK2.out.trans (Keep5.grown HO2.out hg)); clear ho hb hg hat) | ((with_reducible refine gate_builtin (b := .append) (xs := #[.tmp 49, .tmp 53]) rfl ?_); at_builtin; refine Kd.R_append (Kd.int .u8) (w0 := wr) Wz.heap.size rfl (.tmp 49) (.tmp 53) 33 5 (.int .u8 0) 1 rfl Tryd.underlying33 info5 rfl (by decide) (by omega) (.slice Ae E.length ce) (E) (x.f3 % 256) [.int .u8 (x.f3 % 256)] (fun _ => True) (fun _ => False) rfl rfl ?aP (fun _ hk => hk.elim) ?aF ?aO ?aB ?aS ?aL ?_; (case aP => exact rfl); (case aB => exact Below.refl _ _); (case aF => exact (fun _ _ => trivial)); (case aO => exact HO2.out); (case aS => exact HB2.out.size); (case aL => exact HLE1.out); intro v1 wv ho hb hg hat; have HBv := Az.mk (HB2.out.trans hb); have HOv := Az.mk ho; have BKv := Az.mk ((Keep5.grown HO2.out hg) g3 _ _ _ (by decide) BK.out); have HKv := Az.mk (HK2.out.trans (Keep5.grown HO2.out hg)); clear ho hb hg hat) | ((with_reducible refine gate_builtin (b := .append) (xs := #[.tmp 25, .tmp 29]) rfl ?_); at_builtin; refine Kd.R_append (Kd.int .u8) (w0 := wr) Wz.heap.size rfl (.tmp 25) (.tmp 29) 33 5 (.int .u8 0) 1 rfl Tryd.underlying33 info5 rfl (by decide) (by omega) (.slice Ae E.length ce) (E) (x.f4 % 256) [.int .u8 (x.f4 % 256)] (fun _ => True) (fun _ => False) rfl rfl ?aP (fun _ hk => hk.elim) ?aF ?aO ?aB ?aS ?aL ?_; (case aP => exact rfl); (case aB => exact Below.refl _ _); (case aF => exact (fun _ _ => trivial)); (case aO => exact HO2.out); (case aS => exact HB2.out.size); (case aL => exact HLE1.out); intro v1 wv ho hb hg hat; have HBv := Az.mk (HB2.out.trans hb); have HOv := Az.mk ho; have BKv := Az.mk ((Keep5.grown HO2.out hg) g3 _ _ _ (by decide) BK.out); have HKv := Az.mk (HK2.out.trans (Keep5.grown HO2.out hg)); clear ho hb hg hat) | (go_at_call 39; (with_reducible refine (radd_any _ E x.f4 8 _ 8 rfl rfl Wz _ HB2.out HO2.out (by omega) (by have := HLE.out; simp only [putD, numB_len] at this; exact this)).mono ?_); rintro e wv ⟨v1, rfl, hO, hB, hK⟩; have HOv := Az.mk hO; have HBv := Az.mk hB; have BKv := Az.mk (hK g3 _ _ _ (by decide) BK.out); have HKv := Az.mk (HK2.out.trans hK); clear hO hB hK) | (go_at_call 39; (with_reducible refine (radd_any _ E x.f4 2 _ 2 rfl rfl Wz _ HB2.out HO2.out (by omega) (by have := HLE.out; simp only [putD, numB_len] at this; exact this)).mono ?_); rintro e wv ⟨v1, rfl, hO, hB, hK⟩; have HOv := Az.mk hO; have HBv := Az.mk hB; have BKv := Az.mk (hK g3 _ _ _ (by decide) BK.out); have HKv := Az.mk (HK2.out.trans hK); clear hO hB hK) | (go_at_call 86; (with_reducible refine (rlay_any _ E x.f5 A5 c5 n5 Wz _ HN5.out HB2.out HO2.out H5.out HL5.out (by have := HLE.out; simp only [putD, List.length_cons, List.length_map] at this; omega)).mono ?_); rintro e wv ⟨v1, rfl, hO, hB, hK⟩; have HOv := Az.mk hO; have HBv := Az.mk hB; have BKv := Az.mk (hK g3 _ _ _ (by decide) BK.out); have HKv := Az.mk (HK2.out.trans hK); clear hO hB hK) | (go_at_call 86; (with_reducible refine (rlay_any _ E x.f6 A6 c6 n6 Wz _ HN6.out HB2.out HO2.out H6.out HL6.out (by have := HLE.out; simp only [putD, List.length_cons, List.length_map] at this; omega)).mono ?_); rintro e wv ⟨v1, rfl, hO, hB, hK⟩; have HOv := Az.mk hO; have HBv := Az.mk hB; have BKv := Az.mk (hK g3 _ _ _ (by decide) BK.out); have HKv := Az.mk (HK2.out.trans hK); clear hO hB hK))
    have HO3 : Az (kB.R 5 wv Wz.heap.size (fun _ => True) v1 (bs ++ [byteI x.f0] ++ ((partsOf x.f0.toNat).take (q + 1)).flatMap (putB x))) := ⟨by rw [HM.out, ← List.append_assoc, ← HE.out]; exact HOv.out⟩
    clear HOv
    go_roundw
    case rel => exact ⟨q + 1, by have := HLt.out; omega, by go_num, HO3, BKv, HBv, HKv⟩
    case measure => exact Nat.sub_lt_sub_left (show q < P from HLt.out) (show q < q + 1 from Nat.lt_succ_self q)
  ·obtain rfl : q = P := by omega
   have HE2 : Az (E = bs ++ instrB x) := ⟨by rw [HE.out, HPl.out, List.take_of_length_le (Nat.le_refl _), List.append_assoc]; rfl⟩
   clear hlt
   go_wp2_with fail
   go_ret
   exact ⟨_, rfl, by rw [← HE2.out]; exact HO2.out, HB2.out, HK2.out⟩
theorem numB_two (x : Int) : numB x 2 = [byteI x, byteI (x / 256)] := by rw [numB_cons, numB_one]
def codeL (f : S46) : List Int := f.f3.flatMap instrB
theorem flat_nextE {α : Type} (g : α → List Int) (l : List α) (q : Nat) (h : q < l.length) : (l.take (q + 1)).flatMap g = (l.take q).flatMap g ++ g l[q] := by
 rw [List.take_succ_eq_append_getElem h, List.flatMap_append]
 simp
theorem tops_eq (G : Int) (fs : List S46) : topL G fs = [102, 117, 103, 117, 101, 1, G % 256] ++ numB (fs.length : Int) 2 := by
 rw [numB_two]
 unfold topL
 simp [byteI]
set_option maxHeartbeats 8000000 in
set_option maxRecDepth 100000 in
theorem rencode_any (G : Int) (A0 : Option Addr) (c0 n : Nat) (fs : List S46) (w : World) (hn : n = fs.length) (hr : Kd.C k46 w A0 fs.length fs) (hc : fs.length ≤ c0) :
  Calls Tryd.prog 21 #[.agg #[.int .i64 G, .slice A0 n c0]] w fun e w' => ∃ v, e = .returned (.tuple #[v, .int .i64 (firstE G fs)]) ∧ kB.R 5 w' w.heap.size (fun _ => True) v (encOut G fs) ∧ Below w.heap.size w w' := by
 have hcall : ∀ W : World, Below w.heap.size w W → Calls Tryd.prog 16 #[.agg #[.int .i64 G, .slice A0 n c0]] W fun e w' => e = .returned (.int .i64 (firstE G fs)) ∧ Below W.heap.size W w' := fun W hW => by
  rw [hn]
  exact rcheck_any G A0 c0 fs W (Kd.C_below hr hW)
 have HCall := Az.mk hcall
 have HN := Az.mk hn
 have HR : Az (Kd.C k46 w A0 n fs) := ⟨by rw [hn]; exact hr⟩
 have hm0 : n ≤ 9223372036854775807 := by rw [hn]; exact Kd.C_max hr
 have HB := Az.mk (Below.refl w.heap.size w)
 clear hcall hn hr
 unfold encOut
 by_cases h0 : firstE G fs = 0
 ·rw [if_pos h0, h0]
  rw [h0] at HCall
  have HE0 := Az.mk h0
  have Hn6 : Az (n ≤ 65535) := ⟨by
   have := (first_ok h0).1
   unfold funcsE at this
   rw [HN.out]
   by_cases e : fs.length ≤ 65535
   ·exact e
   ·split at this <;> omega⟩
  clear h0
  go_enter Tryd.func21, Tryd.ntmps21
  go_wp2_with (first | ((with_reducible refine gate_dst (N := 1) rfl ?_); refine box_event ?hg (N := 1) ?hd (cs := #[.int .i64 G, .slice A0 n c0]) (t := 24) ?hr ?_; (case hd => rfl); (case hg => rfl); (case hr => first | (go_simp; done) | (go_simp; rfl)); intro g1 hg w1 hbox hb; have G1 : Az (w.heap.size ≤ g1) := ⟨by have := HB.out.size; omega⟩; replace HB := Az.mk (HB.out.trans (hb.mono HB.out.size)); have BK1 := Az.mk hbox; clear hg hbox hb; have z0 : w1.cell? ⟨g1, 0, none⟩ = some (.int .i64 G) := (bZ BK1.out 0).trans rfl; have z1 : w1.cell? ⟨g1, 1, none⟩ = some (.slice A0 n c0) := (bZ BK1.out 1).trans rfl) | (go_at_call 16; refine (HCall.out _ HB.out).mono ?_; rintro e w2 ⟨rfl, hb⟩; replace HB := Az.mk (HB.out.trans (hb.mono HB.out.size)); replace BK1 := Az.mk (kZ BK1.out hb); clear hb z0 z1; have z0 : w2.cell? ⟨g1, 0, none⟩ = some (.int .i64 G) := (bZ BK1.out 0).trans rfl; have z1 : w2.cell? ⟨g1, 1, none⟩ = some (.slice A0 n c0) := (bZ BK1.out 1).trans rfl) | ((with_reducible refine gate_dst (N := 18) rfl ?_); refine Kd.R_lit (Kd.int .u8) (w0 := w) w.heap.size 5 ?hg (N := 18) ?hd (xs := ([102, 117, 103, 117, 101, 1, (G % 256)] : List Int)) (inner := [.int .u8 102, .int .u8 117, .int .u8 103, .int .u8 117, .int .u8 101, .int .u8 1, .int .u8 (G % 256)]) (ok := fun _ => True) (okp := fun _ => True) ?hr ?hp (fun _ hk => hk) trivial HB.out HB.out.size (by simp) ?_; (case hd => rfl); (case hg => rfl); (case hr => first | (go_simp; done) | (go_simp; rfl)); (case hp => exact (Reps.one (show Kd.M (Kd.int .u8) _ _ _ 102 [.int .u8 102] from rfl) (Reps.one (show Kd.M (Kd.int .u8) _ _ _ 117 [.int .u8 117] from rfl) (Reps.one (show Kd.M (Kd.int .u8) _ _ _ 103 [.int .u8 103] from rfl) (Reps.one (show Kd.M (Kd.int .u8) _ _ _ 117 [.int .u8 117] from rfl) (Reps.one (show Kd.M (Kd.int .u8) _ _ _ 101 [.int .u8 101] from rfl) (Reps.one (show Kd.M (Kd.int .u8) _ _ _ 1 [.int .u8 1] from rfl) (Reps.one (show Kd.M (Kd.int .u8) _ _ _ (G % 256) [.int .u8 (G % 256)] from rfl) (Reps.none _ _))))))))); intro v3 w3 ho hb hg hat; have HO := Az.mk ho; have HB_ := Az.mk hb; have BK1_ := Az.mk ((hg.block g1 (blk_lt BK1.out) (fun e => by cases e)).trans BK1.out); clear HB BK1 z0 z1; have HB := HB_; have BK1 := BK1_; clear HB_ BK1_ ho hb hg hat; have z0 : w3.cell? ⟨g1, 0, none⟩ = some (.int .i64 G) := (bZ BK1.out 0).trans rfl; have z1 : w3.cell? ⟨g1, 1, none⟩ = some (.slice A0 n c0) := (bZ BK1.out 1).trans rfl) | (go_at_call 39; (with_reducible refine (radd_any _ [102, 117, 103, 117, 101, 1, G % 256] (n : Int) 2 _ 2 rfl (IntWalk.u64_in _ (by have := Hn6.out; omega)) w _ HB.out HO.out (by omega) (by simp)).mono ?_); rintro e w4 ⟨v4, rfl, hO, hB, hK⟩; have HO4 := Az.mk hO; have HB4 := Az.mk hB; have BK14 := Az.mk (hK g1 _ _ _ (by decide) BK1.out); clear hO hB hK HO HB BK1 z0 z1))
  obtain ⟨T, hT⟩ : ∃ T, T = topL G fs := ⟨_, rfl⟩
  have HT := Az.mk hT
  have HTl : Az (T.length = 9) := ⟨by rw [hT]; rfl⟩
  have HO5 : Az (kB.R 5 w4 w.heap.size (fun _ => True) v4 (T ++ (fs.take 0).flatMap headL)) := ⟨by rw [List.take_zero, List.flatMap_nil, List.append_nil, hT, tops_eq, ← HN.out]; exact HO4.out⟩
  clear hT HO4
  go_loopw [5, 6] (fun v5 v6 w' => ∃ q : Nat, q ≤ n ∧ v6 = .int .i64 (q : Int) ∧ Az (kB.R 5 w' w.heap.size (fun _ => True) v5 (T ++ (fs.take q).flatMap headL)) ∧ Az (w'.heap[g1]? = some (.cells #[.int .i64 G, .slice A0 n c0] 24 (0, 0))) ∧ Az (Below w.heap.size w w')) (fun _ i _ => n - (intOf i).toNat)
  case atStart => exact ⟨0, Nat.zero_le _, rfl, HO5, BK14, HB4⟩
  case round =>
   obtain ⟨q, hq, rfl, HO, BK, HB'⟩ := hrel
   clear HO5 BK14 HB4
   obtain ⟨E, hE⟩ : ∃ E, E = T ++ (fs.take q).flatMap headL := ⟨_, rfl⟩
   have HE := Az.mk hE
   rw [← hE] at HO
   clear hE
   obtain ⟨Ae, ce, e0⟩ := Kd.R_slice HO.out
   subst e0
   have z1 : wr.cell? ⟨g1, 1, none⟩ = some (.slice A0 n c0) := (bZ BK.out 1).trans rfl
   by_cases hlt : q < n
   ·have hwp : wrap64 ((q : Int) + 1) = (q : Int) + 1 := wrap_in (by omega) (by have := Hn6.out; omega)
    have HLt := Az.mk hlt
    have hqx : q < fs.length := by rw [← HN.out]; exact hlt
    obtain ⟨ad, A3, c3, e0, h0, h1, h2, h3, hl3, hi3⟩ := at_T46 HR.out (q : Int) (Int.natCast_nonneg q) (Int.ofNat_lt.2 hlt)
    cases e0
    obtain ⟨x, hx⟩ : ∃ x, x = rd_T46 fs (q : Int) := ⟨_, rfl⟩
    rw [← hx] at h0 h1 h2 h3 hl3 hi3
    rw [rdx46 fs q hqx] at hx
    rw [Int.toNat_natCast] at h0 h1 h2 h3
    have y0 := (HB'.out.cell (World.block_lt_of_cell? w _ h0)).trans h0
    have y1 := (HB'.out.cell (World.block_lt_of_cell? w _ h1)).trans h1
    have y2 := (HB'.out.cell (World.block_lt_of_cell? w _ h2)).trans h2
    have y3 := (HB'.out.cell (World.block_lt_of_cell? w _ h3)).trans h3
    have hm3 : x.f3.length ≤ 9223372036854775807 := Kd.C_max hi3
    have HM : Az ((fs.take (q + 1)).flatMap headL = (fs.take q).flatMap headL ++ headL x) := ⟨by rw [flat_nextE headL fs q hqx, ← hx]⟩
    have HEl : Az (E.length ≤ 1000000) := ⟨by rw [HE.out, List.length_append, HTl.out]; have := headsB_len HE0.out q; omega⟩
    have HL1 : Az ((E.length + 1) * 1 ≤ 140737488355328) := ⟨by have := HEl.out; omega⟩
    have HL2 : Az (((E ++ [x.f0 % 256]).length + 1) * 1 ≤ 140737488355328) := ⟨by rw [List.length_append, List.length_singleton]; have := HEl.out; omega⟩
    have HL3 : Az (((E ++ [x.f0 % 256] ++ [x.f1 % 256]).length + 1) * 1 ≤ 140737488355328) := ⟨by simp only [List.length_append, List.length_singleton]; have := HEl.out; omega⟩
    clear h0 h1 h2 h3 hl3 hi3 hx
    go_wp2_with (first | ((with_reducible refine gate_dst (N := 7) rfl ?_); refine box_event ?hg (N := 7) ?hd (cs := #[.int .i64 0, .int .i64 0, .int .i64 0, .slice none 0 0]) (t := 46) ?hr ?_; (case hd => rfl); (case hg => rfl); (case hr => first | (go_simp; done) | (go_simp; rfl)); intro g7 hg w7 hbox hb; have G7 : Az (w.heap.size ≤ g7) := ⟨by have := HB'.out.size; omega⟩; replace HB' := Az.mk (HB'.out.trans (hb.mono HB'.out.size)); replace HO := Az.mk (Kd.R_below HO.out hb); replace BK := Az.mk (kZ BK.out hb); have BK7 := Az.mk hbox; clear hg hbox hb; clear z1 y0 y1 y2 y3) | ((with_reducible refine gate_ (.store 46 (.tmp 7) (.tmp 36)) rfl ?_); refine blk_store rfl rfl 46 (.tmp 7) (.tmp 36) rfl 46 (cur2 := #[.int .i64 x.f0, .int .i64 x.f1, .int .i64 x.f2, .slice A3 x.f3.length c3]) _ [.int .i64 x.f0, .int .i64 x.f1, .int .i64 x.f2, .slice A3 x.f3.length c3] rfl rfl rfl size46 (one4 _ _ _ _ _ _) BK7.out (Nat.le_refl 4) rfl ?_; intro w8 hk hg; have BKs := Az.mk hk; have HBs := Az.mk (HB'.out.grown hg HB'.out.size (fun k hk => by injection hk with hk; have := G7.out; omega)); have HOs := Az.mk (Kd.R_mono (Kd.R_grown (Kd.R_types HO.out BK7.out (by decide)) hg (fun k hk e => hk.2 (Option.some.inj e))) (fun _ h => h.1)); have BKg := Az.mk ((hg.block g1 (blk_lt BK.out) (fun e => by injection e with e; subst e; have h1 := BK.out; rw [BK7.out] at h1; cases h1)).trans BK.out); clear HB' HO BK BK7 hk hg; have b0 : w8.cell? ⟨g7, 0, none⟩ = some (.int .i64 x.f0) := (bZ BKs.out 0).trans rfl) | ((with_reducible refine gate_builtin (b := .append) (xs := #[.tmp 37, .tmp 41]) rfl ?_); at_builtin; refine Kd.R_append (Kd.int .u8) (w0 := w8) w.heap.size rfl (.tmp 37) (.tmp 41) 33 5 (.int .u8 0) 1 rfl Tryd.underlying33 info5 rfl (by decide) (by omega) (.slice Ae E.length ce) (E) (x.f0 % 256) [.int .u8 (x.f0 % 256)] (fun _ => True) (fun _ => False) rfl rfl ?aP (fun _ hk => hk.elim) ?aF ?aO ?aB ?aS ?aL ?_; (case aP => exact rfl); (case aB => exact Below.refl _ _); (case aF => exact (fun _ _ => trivial)); (case aO => exact HOs.out); (case aS => exact HBs.out.size); (case aL => exact HL1.out); intro va wa ho hb hg hat; have HBa := Az.mk (HBs.out.trans hb); have HOa := Az.mk ho; have BKa := Az.mk ((Keep5.grown HOs.out hg) g7 _ _ _ (by decide) BKs.out); have BKh := Az.mk ((Keep5.grown HOs.out hg) g1 _ _ _ (by decide) BKg.out); clear b0; have b1 : wa.cell? ⟨g7, 1, none⟩ = some (.int .i64 x.f1) := (bZ BKa.out 1).trans rfl; clear ho hb hg hat) | ((with_reducible refine gate_builtin (b := .append) (xs := #[.tmp 43, .tmp 47]) rfl ?_); at_builtin; refine Kd.R_append (Kd.int .u8) (w0 := wa) w.heap.size rfl (.tmp 43) (.tmp 47) 33 5 (.int .u8 0) 1 rfl Tryd.underlying33 info5 rfl (by decide) (by omega) (va) ((E ++ [x.f0 % 256])) (x.f1 % 256) [.int .u8 (x.f1 % 256)] (fun _ => True) (fun _ => False) rfl rfl ?aP (fun _ hk => hk.elim) ?aF ?aO ?aB ?aS ?aL ?_; (case aP => exact rfl); (case aB => exact Below.refl _ _); (case aF => exact (fun _ _ => trivial)); (case aO => exact HOa.out); (case aS => exact HBa.out.size); (case aL => exact HL2.out); intro vb wb ho hb hg hat; have HBb := Az.mk (HBa.out.trans hb); have HOb := Az.mk ho; have BKb := Az.mk ((Keep5.grown HOa.out hg) g7 _ _ _ (by decide) BKa.out); have BKi := Az.mk ((Keep5.grown HOa.out hg) g1 _ _ _ (by decide) BKh.out); clear b1; have b2 : wb.cell? ⟨g7, 2, none⟩ = some (.int .i64 x.f2) := (bZ BKb.out 2).trans rfl; clear ho hb hg hat) | ((with_reducible refine gate_builtin (b := .append) (xs := #[.tmp 49, .tmp 53]) rfl ?_); at_builtin; refine Kd.R_append (Kd.int .u8) (w0 := wb) w.heap.size rfl (.tmp 49) (.tmp 53) 33 5 (.int .u8 0) 1 rfl Tryd.underlying33 info5 rfl (by decide) (by omega) (vb) ((E ++ [x.f0 % 256] ++ [x.f1 % 256])) (x.f2 % 256) [.int .u8 (x.f2 % 256)] (fun _ => True) (fun _ => False) rfl rfl ?aP (fun _ hk => hk.elim) ?aF ?aO ?aB ?aS ?aL ?_; (case aP => exact rfl); (case aB => exact Below.refl _ _); (case aF => exact (fun _ _ => trivial)); (case aO => exact HOb.out); (case aS => exact HBb.out.size); (case aL => exact HL3.out); intro vc wc ho hb hg hat; have HBc := Az.mk (HBb.out.trans hb); have HOc := Az.mk ho; have BKc := Az.mk ((Keep5.grown HOb.out hg) g7 _ _ _ (by decide) BKb.out); have BKj := Az.mk ((Keep5.grown HOb.out hg) g1 _ _ _ (by decide) BKi.out); clear b2; have b3 : wc.cell? ⟨g7, 3, none⟩ = some (.slice A3 x.f3.length c3) := (bZ BKc.out 3).trans rfl; clear ho hb hg hat) | (go_at_call 39; (with_reducible refine (radd_any _ (E ++ [x.f0 % 256] ++ [x.f1 % 256] ++ [x.f2 % 256]) (x.f3.length : Int) 2 _ 2 rfl (IntWalk.u64_in _ (by have := hm3; omega)) w _ HBc.out HOc.out (by omega) (by simp only [List.length_append, List.length_singleton]; have := HEl.out; omega)).mono ?_); rintro e wd ⟨vd, rfl, hO, hB, hK⟩; have HOd := Az.mk hO; have HBd := Az.mk hB; have BKk := Az.mk (hK g1 _ _ _ (by decide) BKj.out); clear hO hB hK b3))
    have HO3 : Az (kB.R 5 wd w.heap.size (fun _ => True) vd (T ++ (fs.take (q + 1)).flatMap headL)) := ⟨by
     rw [HM.out, ← List.append_assoc, ← HE.out]
     have e : E ++ headL x = E ++ [x.f0 % 256] ++ [x.f1 % 256] ++ [x.f2 % 256] ++ numB (x.f3.length : Int) 2 := by rw [numB_two]; unfold headL byteI; simp
     rw [e]
     exact HOd.out⟩
    clear HOd
    go_roundw
    case rel => exact ⟨q + 1, by have := HLt.out; omega, by go_num, HO3, BKk, HBd⟩
    case measure => exact Nat.sub_lt_sub_left (show q < n from HLt.out) (show q < q + 1 from Nat.lt_succ_self q)
   ·obtain rfl : q = n := by omega
    obtain ⟨T2, hT2⟩ : ∃ T2, T2 = T ++ fs.flatMap headL := ⟨_, rfl⟩
    have HT2 := Az.mk hT2
    have HT2l : Az (T2.length ≤ 1000000) := ⟨by rw [hT2, List.length_append, HTl.out]; have := headsB_len HE0.out q; rw [HN.out, List.take_of_length_le (Nat.le_refl _)] at this; omega⟩
    have HO2 : Az (kB.R 5 wr w.heap.size (fun _ => True) (.slice Ae E.length ce) (T2 ++ (fs.take 0).flatMap codeL)) := ⟨by
     have e : E = T2 := by rw [HE.out, hT2, HN.out, List.take_of_length_le (Nat.le_refl _)]
     rw [List.take_zero, List.flatMap_nil, List.append_nil, ← e]
     exact HO.out⟩
    clear hT2 HO hlt
    go_wp2_with fail
    clear z1
    go_loopw [5, 8] (fun v5 v8 w' => ∃ p : Nat, p ≤ q ∧ v8 = .int .i64 (p : Int) ∧ Az (kB.R 5 w' w.heap.size (fun _ => True) v5 (T2 ++ (fs.take p).flatMap codeL)) ∧ Az (w'.heap[g1]? = some (.cells #[.int .i64 G, .slice A0 q c0] 24 (0, 0))) ∧ Az (Below w.heap.size w w')) (fun _ i _ => q - (intOf i).toNat)
    case atStart => exact ⟨0, Nat.zero_le _, rfl, HO2, BK, HB'⟩
    case round =>
     obtain ⟨p, hp, rfl, HO, BK, HB'⟩ := hrel
     clear HO2
     have z1 : wr.cell? ⟨g1, 1, none⟩ = some (.slice A0 q c0) := (bZ BK.out 1).trans rfl
     by_cases hlt : p < q
     ·have HWp : Az (wrap64 ((p : Int) + 1) = (p : Int) + 1) := ⟨wrap_in (by omega) (by have := Hn6.out; omega)⟩
      have HLt := Az.mk hlt
      have hpx : p < fs.length := by rw [← HN.out]; exact hlt
      obtain ⟨ad, A3, c3, e0, h0, h1, h2, h3, hl3, hi3⟩ := at_T46 HR.out (p : Int) (Int.natCast_nonneg p) (Int.ofNat_lt.2 hlt)
      cases e0
      obtain ⟨f, hf⟩ : ∃ f, f = rd_T46 fs (p : Int) := ⟨_, rfl⟩
      rw [← hf] at h3 hl3 hi3
      rw [rdx46 fs p hpx] at hf
      rw [Int.toNat_natCast] at h3
      have HFx := Az.mk hf
      have H3 := Az.mk h3
      have HI3 := Az.mk hi3
      have HM : Az ((fs.take (p + 1)).flatMap codeL = (fs.take p).flatMap codeL ++ f.f3.flatMap instrB) := ⟨by rw [flat_nextE codeL fs p hpx, ← hf]; rfl⟩
      have hm3 : f.f3.length ≤ 9223372036854775807 := Kd.C_max hi3
      obtain ⟨F, hF⟩ : ∃ F, F = T2 ++ (fs.take p).flatMap codeL := ⟨_, rfl⟩
      have HF := Az.mk hF
      have HFl : Az (F.length ≤ 10000000000) := ⟨by rw [hF, List.length_append]; have h4 : ((fs.take p).flatMap codeL).length ≤ 114688 * 65535 := codes_len HE0.out p; have := HT2l.out; omega⟩
      have HO3 : Az (kB.R 5 wr w.heap.size (fun _ => True) u5 (F ++ (f.f3.take 0).flatMap instrB)) := ⟨by rw [List.take_zero, List.flatMap_nil, List.append_nil, hF]; exact HO.out⟩
      have Hlen : Az (f.f3.length ≤ 4096) := ⟨by have := head_le (heads_ok HE0.out p hpx); rw [hf]; omega⟩
      clear h0 h1 h2 h3 hl3 hi3 hf hF HO
      go_wp2_with fail
      clear z1
      go_loopw [5, 9] (fun v5 v9 w' => ∃ k : Nat, k ≤ f.f3.length ∧ v9 = .int .i64 (k : Int) ∧ Az (kB.R 5 w' w.heap.size (fun _ => True) v5 (F ++ (f.f3.take k).flatMap instrB)) ∧ Az (w'.heap[g1]? = some (.cells #[.int .i64 G, .slice (some ad) q c0] 24 (0, 0))) ∧ Az (Below w.heap.size w w')) (fun _ i _ => f.f3.length - (intOf i).toNat)
      case atStart => exact ⟨0, Nat.zero_le _, rfl, HO3, BK, HB'⟩
      case round =>
       obtain ⟨k, hk, rfl, HO, BK, HB'⟩ := hrel
       clear HO3
       have z1 : wr.cell? ⟨g1, 1, none⟩ = some (.slice (some ad) q c0) := (bZ BK.out 1).trans rfl
       have y3 := (HB'.out.cell (World.block_lt_of_cell? w _ H3.out)).trans H3.out
       by_cases hkt : k < f.f3.length
       ·have hwk : wrap64 ((k : Int) + 1) = (k : Int) + 1 := wrap_in (by omega) (by have := Hlen.out; omega)
        have HKt := Az.mk hkt
        obtain ⟨a5, A5, c5, A6, c6, e0, h0, h1, h2, h3, h4, h5, h6, hl5, hi5, hl6, hi6⟩ := at_T50 HI3.out (k : Int) (Int.natCast_nonneg k) (Int.ofNat_lt.2 hkt)
        cases e0
        obtain ⟨x, hx⟩ : ∃ x, x = rd_T50 f.f3 (k : Int) := ⟨_, rfl⟩
        rw [← hx] at h0 h1 h2 h3 h4 h5 h6 hl5 hi5 hl6 hi6
        rw [rdx50 f.f3 k hkt] at hx
        rw [Int.toNat_natCast] at h0 h1 h2 h3 h4 h5 h6
        have x0 := (HB'.out.cell (World.block_lt_of_cell? w _ h0)).trans h0
        have x1 := (HB'.out.cell (World.block_lt_of_cell? w _ h1)).trans h1
        have x2 := (HB'.out.cell (World.block_lt_of_cell? w _ h2)).trans h2
        have x3 := (HB'.out.cell (World.block_lt_of_cell? w _ h3)).trans h3
        have x4 := (HB'.out.cell (World.block_lt_of_cell? w _ h4)).trans h4
        have x5 := (HB'.out.cell (World.block_lt_of_cell? w _ h5)).trans h5
        have x6 := (HB'.out.cell (World.block_lt_of_cell? w _ h6)).trans h6
        have HM2 : Az ((f.f3.take (k + 1)).flatMap instrB = (f.f3.take k).flatMap instrB ++ instrB x) := ⟨by rw [flat_nextE instrB f.f3 k hkt, ← hx]⟩
        have HLx : Az ((F ++ (f.f3.take k).flatMap instrB).length + (instrB x).length ≤ 100000000000000) := ⟨by
         rw [List.length_append]
         have hpx : p < fs.length := by rw [← HN.out]; exact HLt.out
         have h7 := codeB_len HE0.out p hpx k
         have h8 := instr_len HE0.out p hpx k (by rw [← HFx.out]; exact hkt)
         rw [← HFx.out] at h7
         have h9 : (instrB x).length ≤ 28 := by rw [hx]; simp only [← HFx.out] at h8; exact h8
         have := HFl.out
         omega⟩
        have H5 := Az.mk hi5
        have H6 := Az.mk hi6
        have L5 := Az.mk hl5
        have L6 := Az.mk hl6
        have hm5 : x.f5.length ≤ 9223372036854775807 := Kd.C_max hi5
        have hm6 : x.f6.length ≤ 9223372036854775807 := Kd.C_max hi6
        clear h0 h1 h2 h3 h4 h5 h6 hl5 hi5 hl6 hi6 hx
        go_wp2_with (go_at_call 40; refine (rlaid_any _ _ x A5 A6 c5 c6 x.f5.length x.f6.length w _ rfl rfl HB'.out HO.out H5.out L5.out H6.out L6.out HLx.out).mono ?_; rintro e wd ⟨vd, rfl, hO, hB, hK⟩; have HOd := Az.mk hO; have HBd := Az.mk hB; have BKd := Az.mk (hK g1 _ _ _ (by decide) BK.out); clear hO hB hK z1 y3 x0 x1 x2 x3 x4 x5 x6)
        have HO3 : Az (kB.R 5 wd w.heap.size (fun _ => True) vd (F ++ (f.f3.take (k + 1)).flatMap instrB)) := ⟨by rw [HM2.out, ← List.append_assoc]; exact HOd.out⟩
        clear HOd
        go_roundw
        case rel => exact ⟨k + 1, by have := HKt.out; omega, by go_num, HO3, BKd, HBd⟩
        case measure => exact Nat.sub_lt_sub_left (show k < f.f3.length from HKt.out) (show k < k + 1 from Nat.lt_succ_self k)
       ·have hwp := HWp.out
        have HO3 : Az (kB.R 5 wr w.heap.size (fun _ => True) u5 (T2 ++ (fs.take (p + 1)).flatMap codeL)) := ⟨by
         rw [HM.out, ← List.append_assoc, ← HF.out]
         have e : f.f3.take k = f.f3 := List.take_of_length_le (by omega)
         rw [← e]
         exact HO.out⟩
        go_wp2_with fail
        go_roundw
        case rel => exact ⟨p + 1, by have := HLt.out; omega, by go_num, HO3, BK, HB'⟩
        case measure => exact Nat.sub_lt_sub_left (show p < q from HLt.out) (show p < p + 1 from Nat.lt_succ_self p)
     ·obtain rfl : p = q := by omega
      have HO3 : Az (kB.R 5 wr w.heap.size (fun _ => True) u5 (encB G fs)) := ⟨by
       have h1 := HO.out
       rw [HN.out, List.take_of_length_le (Nat.le_refl _), HT2.out, HT.out] at h1
       exact h1⟩
      go_wp2_with fail
      go_ret2
      exact ⟨_, rfl, HO3.out, HB'.out⟩
 ·rw [if_neg h0]
  obtain ⟨e, he⟩ : ∃ e, e = firstE G fs := ⟨_, rfl⟩
  rw [← he] at h0 HCall ⊢
  have h0b : (e == 0) = false := beq_eq_false_iff_ne.2 h0
  clear h0 he
  go_enter Tryd.func21, Tryd.ntmps21
  go_wp2_with (first | ((with_reducible refine gate_dst (N := 1) rfl ?_); refine box_event ?hg (N := 1) ?hd (cs := #[.int .i64 G, .slice A0 n c0]) (t := 24) ?hr ?_; (case hd => rfl); (case hg => rfl); (case hr => first | (go_simp; done) | (go_simp; rfl)); intro g1 hg w1 hbox hb; have G1 : Az (w.heap.size ≤ g1) := ⟨by have := HB.out.size; omega⟩; replace HB := Az.mk (HB.out.trans (hb.mono HB.out.size)); have BK1 := Az.mk hbox; clear hg hbox hb; have z0 : w1.cell? ⟨g1, 0, none⟩ = some (.int .i64 G) := (bZ BK1.out 0).trans rfl; have z1 : w1.cell? ⟨g1, 1, none⟩ = some (.slice A0 n c0) := (bZ BK1.out 1).trans rfl) | (go_at_call 16; refine (HCall.out _ HB.out).mono ?_; rintro e_ w2 ⟨rfl, hb⟩; replace HB := Az.mk (HB.out.trans (hb.mono HB.out.size)); replace BK1 := Az.mk (kZ BK1.out hb); clear hb z0 z1))
  go_ret2
  exact ⟨_, rfl, Kd.R_nil _ _ _ _ _, HB.out⟩
theorem eqbytes_l0 (xs ys : List Int) (h : xs.length = ys.length) (hl : xs.length ≤ 9223372036854775807) : ∀ (d i : Nat), xs.length - i = d → i ≤ xs.length → Ev (fun k => fugueref00_EqBytes.l0 k xs ys (i : Int)) (xs.drop i == ys.drop i) := by
 intro d
 induction d with
 | zero =>
  intro i hd hi
  refine Ev.step (f := fun _ => some true) (fun k => by simp only [fugueref00_EqBytes.l0]; rw [if_neg (by omega)]) ?_
  rw [List.drop_eq_nil_of_le (by omega), List.drop_eq_nil_of_le (by omega)]
  exact Ev.now _
 | succ d ih =>
  intro i hd hi
  have hx : i < xs.length := by omega
  have hy : i < ys.length := by omega
  have e1 : rd xs (i : Int) = xs[i] := rd_get xs i hx
  have e2 : rd ys (i : Int) = ys[i] := rd_get ys i hy
  refine Ev.step (fun k => by simp only [fugueref00_EqBytes.l0]; rw [if_pos (by omega), if_pos (by omega), if_pos (by omega), e1, e2, wrap_in (by omega) (by omega)]) ?_
  rw [List.drop_eq_getElem_cons hx, List.drop_eq_getElem_cons hy, List.cons_beq_cons]
  by_cases he : xs[i] = ys[i]
  ·simp only [if_pos he]
   rw [beq_iff_eq.2 he, Bool.true_and]
   exact ih (i + 1) (by omega) (by omega)
  ·simp only [if_neg he]
   rw [beq_eq_false_iff_ne.2 he, Bool.false_and]
   exact Ev.now _
theorem eqbytes_ev (xs ys : List Int) (hl : xs.length ≤ 9223372036854775807) : Ev (fun k => fugueref00_EqBytes.f k xs ys) (xs == ys) := by
 unfold fugueref00_EqBytes.f
 by_cases h : xs.length = ys.length
 ·simp only [if_pos (show (xs.length : Int) = (ys.length : Int) by omega)]
  simpa using eqbytes_l0 xs ys h hl xs.length 0 (by omega) (by omega)
 ·simp only [if_neg (show ¬ (xs.length : Int) = (ys.length : Int) by omega)]
  rw [beq_eq_false_iff_ne.2 (fun he => h (by rw [he]))]
  exact Ev.now _
section
variable {G : Int} {A A2 : Option Addr} {c c2 n m : Nat} {fs : List S46} {bs : List Int} {w : World}
theorem enc_out_len (G : Int) (fs : List S46) : (encOut G fs).length ≤ 9223372036854775807 := by
 unfold encOut
 by_cases h0 : firstE G fs = 0
 ·rw [if_pos h0]
  have h1 := codes_len h0 fs.length
  have h2 := headsB_len h0 fs.length
  rw [List.take_of_length_le (Nat.le_refl _)] at h1 h2
  unfold encB topL
  simp only [List.length_append, List.length_cons, List.length_nil]
  omega
 ·rw [if_neg h0]
  exact Nat.zero_le _
theorem c_enc (hT : Tab w) (hn : n = fs.length) (hr : Kd.C k46 w A n fs) (hc : n ≤ c) (hb : bs = encOut G fs) (hm : m = bs.length) : Calls Tryd.prog 20 #[.agg #[.int .i64 G, .slice A n c]] w fun e w' => ∃ A c, e = .returned (.tuple #[.slice A m c, .int .i64 (firstE G fs)]) ∧ ((Kd.int .u8).C w' A m bs ∧ m ≤ c) ∧ Below w.heap.size w w' := by
 subst hn; subst hb; subst hm
 refine (code_Encode.calls G A c fs _ _ w hr hc rfl hT).mono ?_
 rintro e w' ⟨v, he, hR, hb⟩
 obtain ⟨A', c', rfl, hl, hC⟩ := Kd.R_reads hR
 exact ⟨A', c', he, ⟨hC, hl⟩, hb⟩
theorem c_renc (hn : n = fs.length) (hr : Kd.C k46 w A n fs) (hc : n ≤ c) (hb : bs = encOut G fs) (hm : m = bs.length) : Calls Tryd.prog 21 #[.agg #[.int .i64 G, .slice A n c]] w fun e w' => ∃ A c, e = .returned (.tuple #[.slice A m c, .int .i64 (firstE G fs)]) ∧ ((Kd.int .u8).C w' A m bs ∧ m ≤ c) ∧ Below w.heap.size w w' := by
 subst hn; subst hb; subst hm
 refine (rencode_any G A c fs.length fs w rfl hr hc).mono ?_
 rintro e w' ⟨v, he, hR, hb⟩
 obtain ⟨A', c', rfl, hl, hC⟩ := Kd.R_reads hR
 exact ⟨A', c', he, ⟨hC, hl⟩, hb⟩
theorem c_eqb (hm : m = bs.length) (hl : m ≤ 9223372036854775807) (hr : (Kd.int .u8).C w A m bs) (hc : m ≤ c) (hr2 : (Kd.int .u8).C w A2 m bs) (hc2 : m ≤ c2) : Calls Tryd.prog 22 #[.slice A m c, .slice A2 m c2] w fun e w' => e = .returned (.bool true) ∧ Below w.heap.size w w' := by
 subst hm
 have h := eqbytes_ev bs bs hl
 rw [beq_self_eq_true] at h
 obtain ⟨k, hk⟩ := h.rounds
 refine (fugueref00_EqBytes.calls k A c bs A2 c2 bs true rfl w hr hc hr2 hc2 hk).mono ?_
 rintro e w' ⟨he, hd⟩
 obtain ⟨nd, rfl⟩ := hd.out
 exact ⟨he, pZ (Below.refl _ _) nd⟩
end
set_option maxHeartbeats 8000000 in
set_option maxRecDepth 100000 in
theorem encodes_any {G : Int} {A0 : Option Addr} {c0 : Nat} {x0 : List S46} (W : World) (l0 : x0.length ≤ c0) (g0 : Kd.C k46 W A0 x0.length x0) (h0 : Ok22 x0) (hT : Tab W) :
  Calls Tryd.prog 4 #[.agg #[.int .i64 G, .slice A0 x0.length c0]] W fun e w' => e = .returned (.bool true) ∧ Below W.heap.size W w' := by
 obtain ⟨n, hn⟩ : ∃ n, n = x0.length := ⟨_, rfl⟩
 rw [← hn] at l0 g0 ⊢
 have HI := Az.mk (in_of_ok h0)
 have HN := Az.mk hn
 have HP := Az.mk g0
 have HC := Az.mk l0
 have HT := Az.mk hT
 have HB := Az.mk (Below.refl W.heap.size W)
 have hm0 : n ≤ 9223372036854775807 := by have := HI.out.1; omega
 obtain ⟨bs, hbs⟩ : ∃ bs, bs = encOut G x0 := ⟨_, rfl⟩
 obtain ⟨m, hm⟩ : ∃ m, m = bs.length := ⟨_, rfl⟩
 have hml : m ≤ 9223372036854775807 := by rw [hm, hbs]; exact enc_out_len G x0
 have HBs := Az.mk hbs
 have HM := Az.mk hm
 have HMl := Az.mk hml
 clear hn l0 g0 h0 hT hbs hm
 go_enter Tryd.func4, Tryd.ntmps4
 go_wp2_with (first | ((with_reducible refine gate_dst (N := 1) rfl ?_); refine box_event ?hg (N := 1) ?hd (cs := #[.int .i64 G, .slice A0 n c0]) (t := 24) ?hr ?_; (case hd => rfl); (case hg => rfl); (case hr => first | (go_simp; done) | (go_simp; rfl)); intro g1 hg w1 hbox hb; have G1 : Az (W.heap.size ≤ g1) := ⟨by have := HB.out.size; omega⟩; replace HB := Az.mk (HB.out.trans (hb.mono HB.out.size)); have BK1 := Az.mk hbox; clear hg hbox hb; have z0 : w1.cell? ⟨g1, 0, none⟩ = some (.int .i64 G) := (bZ BK1.out 0).trans rfl; have z1 : w1.cell? ⟨g1, 1, none⟩ = some (.slice A0 n c0) := (bZ BK1.out 1).trans rfl) | (go_at_call 10; (with_reducible refine (c_works (Tab.below HT.out HB.out)).mono ?_); rintro e w2 ⟨rfl, hb⟩; replace HB := Az.mk (HB.out.trans (hb.mono HB.out.size)); replace BK1 := Az.mk (kZ BK1.out hb); clear z0 z1; have z0 : w2.cell? ⟨g1, 0, none⟩ = some (.int .i64 G) := (bZ BK1.out 0).trans rfl; have z1 : w2.cell? ⟨g1, 1, none⟩ = some (.slice A0 n c0) := (bZ BK1.out 1).trans rfl; have HGl : Az (g1 < w2.heap.size) := ⟨blk_lt BK1.out⟩; have HWl : Az (W.heap.size ≤ w2.heap.size) := ⟨HB.out.size⟩; clear hb) | (go_at_call 11; (with_reducible refine (c_wide HI.out HN.out (Kd.C_below HP.out HB.out) HC.out).mono ?_); rintro e w3 ⟨A, c, rfl, hS, hb⟩; replace HB := Az.mk (HB.out.trans (hb.mono HB.out.size)); replace BK1 := Az.mk (kZ BK1.out hb); have HXsz : Az (w2.heap.size ≤ w3.heap.size) := ⟨hb.size⟩; have HX : Az (fSw w3 w2.heap.size (fun k => k < w3.heap.size) (.slice A (marked mark46 x0).length c) (marked mark46 x0)) := ⟨Kd.S_mono (Kd.S_bound hS) (fun k hk => hk.2.2.1)⟩; clear hS hb; clear z0 z1) | ((with_reducible refine gate_dst (N := 4) rfl ?_); refine box_event ?hg (N := 4) ?hd (cs := #[.int .i64 0, .slice none 0 0]) (t := 24) ?hr ?_; (case hd => rfl); (case hg => rfl); (case hr => first | (go_simp; done) | (go_simp; rfl)); intro g4 hg w4 hbox hb; have Hg4 : Az (w3.heap.size ≤ g4) := ⟨Nat.le_of_eq hg.symm⟩; have G4 : Az (W.heap.size ≤ g4) := ⟨by have := HB.out.size; omega⟩; replace HB := Az.mk (HB.out.trans (hb.mono HB.out.size)); replace BK1 := Az.mk (kZ BK1.out hb); replace HX := Az.mk (Kd.S_below HX.out hb); have BK4 := Az.mk hbox; clear hg hbox hb; have HNe : Az (g1 < g4) := ⟨Nat.lt_of_lt_of_le HGl.out (Nat.le_trans HXsz.out Hg4.out)⟩) | ((with_reducible refine gate_ (.store 24 (.tmp 4) (.tmp 13)) rfl ?_); refine blk_store rfl rfl 24 (.tmp 4) (.tmp 13) rfl 24 (cur2 := #[.int .i64 G, .slice A n c]) _ [.int .i64 G, .slice A n c] rfl rfl rfl size24 (one2 _ _ _ _) BK4.out (Nat.le_refl 2) rfl ?_; intro w5 hk hg; have HB_ := Az.mk (HB.out.grown hg HB.out.size (fun k hk => by injection hk with hk; have := G4.out; omega)); have HX_ := Az.mk (Kd.S_grown HX.out hg (fun k hk e => by injection e with e; have := Hg4.out; omega)); have BK1_ := Az.mk ((hg.block g1 (blk_lt BK1.out) (fun e => by injection e with e; have := HNe.out; omega)).trans BK1.out); clear HB HX BK1 BK4; have HB := HB_; have HX := HX_; have BK1 := BK1_; have BK4 := Az.mk hk; clear HB_ HX_ BK1_ hk hg; have z0 : w5.cell? ⟨g1, 0, none⟩ = some (.int .i64 G) := (bZ BK1.out 0).trans rfl; have z1 : w5.cell? ⟨g1, 1, none⟩ = some (.slice A0 n c0) := (bZ BK1.out 1).trans rfl; have y0 : w5.cell? ⟨g4, 0, none⟩ = some (.int .i64 G) := (bZ BK4.out 0).trans rfl; have y1 : w5.cell? ⟨g4, 1, none⟩ = some (.slice A n c) := (bZ BK4.out 1).trans rfl) | (go_at_call 20; (with_reducible refine (c_enc (Tab.below HT.out HB.out) HN.out (wide_reads HN.out HX.out).1 (wide_reads HN.out HX.out).2 HBs.out HM.out).mono ?_); rintro e w6 ⟨A5, c5, rfl, hE, hb⟩; replace HB := Az.mk (HB.out.trans (hb.mono HB.out.size)); replace BK1 := Az.mk (kZ BK1.out hb); replace HX := Az.mk (Kd.S_below HX.out hb); replace BK4 := Az.mk (kZ BK4.out hb); clear z0 z1 y0 y1; have z0 : w6.cell? ⟨g1, 0, none⟩ = some (.int .i64 G) := (bZ BK1.out 0).trans rfl; have z1 : w6.cell? ⟨g1, 1, none⟩ = some (.slice A0 n c0) := (bZ BK1.out 1).trans rfl; have y0 : w6.cell? ⟨g4, 0, none⟩ = some (.int .i64 G) := (bZ BK4.out 0).trans rfl; have y1 : w6.cell? ⟨g4, 1, none⟩ = some (.slice A n c) := (bZ BK4.out 1).trans rfl; have HE := Az.mk hE.1; have HEc := Az.mk hE.2; clear hb hE) | (go_at_call 21; (with_reducible refine (c_renc HN.out (Kd.C_below HP.out HB.out) HC.out HBs.out HM.out).mono ?_); rintro e w7 ⟨A7, c7, rfl, hE, hb⟩; replace HB := Az.mk (HB.out.trans (hb.mono HB.out.size)); replace BK1 := Az.mk (kZ BK1.out hb); replace HX := Az.mk (Kd.S_below HX.out hb); replace BK4 := Az.mk (kZ BK4.out hb); replace HE := Az.mk (Kd.C_below HE.out hb); clear z0 z1 y0 y1; have z0 : w7.cell? ⟨g1, 0, none⟩ = some (.int .i64 G) := (bZ BK1.out 0).trans rfl; have z1 : w7.cell? ⟨g1, 1, none⟩ = some (.slice A0 n c0) := (bZ BK1.out 1).trans rfl; have y0 : w7.cell? ⟨g4, 0, none⟩ = some (.int .i64 G) := (bZ BK4.out 0).trans rfl; have y1 : w7.cell? ⟨g4, 1, none⟩ = some (.slice A n c) := (bZ BK4.out 1).trans rfl; have HR := Az.mk hE.1; have HRc := Az.mk hE.2; clear hb hE) | (go_at_call 14; (with_reducible refine (c_eq HI.out HN.out (wide_reads HN.out HX.out).1 (wide_reads HN.out HX.out).2 (Kd.C_below HP.out HB.out) HC.out).mono ?_); rintro e w8 ⟨rfl, hb⟩; replace HB := Az.mk (HB.out.trans (hb.mono HB.out.size)); replace BK1 := Az.mk (kZ BK1.out hb); replace HX := Az.mk (Kd.S_below HX.out hb); replace BK4 := Az.mk (kZ BK4.out hb); replace HE := Az.mk (Kd.C_below HE.out hb); replace HR := Az.mk (Kd.C_below HR.out hb); clear z0 z1 y0 y1; have z0 : w8.cell? ⟨g1, 0, none⟩ = some (.int .i64 G) := (bZ BK1.out 0).trans rfl; have z1 : w8.cell? ⟨g1, 1, none⟩ = some (.slice A0 n c0) := (bZ BK1.out 1).trans rfl; have y0 : w8.cell? ⟨g4, 0, none⟩ = some (.int .i64 G) := (bZ BK4.out 0).trans rfl; have y1 : w8.cell? ⟨g4, 1, none⟩ = some (.slice A n c) := (bZ BK4.out 1).trans rfl; clear hb) | (go_at_call 15; (with_reducible refine (c_spare HI.out HN.out HX.out).mono ?_); rintro e w9 ⟨rfl, hb⟩; replace HB := Az.mk (HB.out.trans (hb.mono HB.out.size)); replace BK1 := Az.mk (kZ BK1.out hb); replace HX := Az.mk (Kd.S_below HX.out hb); replace BK4 := Az.mk (kZ BK4.out hb); replace HE := Az.mk (Kd.C_below HE.out hb); replace HR := Az.mk (Kd.C_below HR.out hb); clear z0 z1 y0 y1; have z0 : w9.cell? ⟨g1, 0, none⟩ = some (.int .i64 G) := (bZ BK1.out 0).trans rfl; have z1 : w9.cell? ⟨g1, 1, none⟩ = some (.slice A0 n c0) := (bZ BK1.out 1).trans rfl; have y0 : w9.cell? ⟨g4, 0, none⟩ = some (.int .i64 G) := (bZ BK4.out 0).trans rfl; have y1 : w9.cell? ⟨g4, 1, none⟩ = some (.slice A n c) := (bZ BK4.out 1).trans rfl; clear hb) | (go_at_call 22; (with_reducible refine (c_eqb HM.out HMl.out HE.out HEc.out HR.out HRc.out).mono ?_); rintro e w10 ⟨rfl, hb⟩; replace HB := Az.mk (HB.out.trans (hb.mono HB.out.size)); replace BK1 := Az.mk (kZ BK1.out hb); replace HX := Az.mk (Kd.S_below HX.out hb); replace BK4 := Az.mk (kZ BK4.out hb); replace HE := Az.mk (Kd.C_below HE.out hb); replace HR := Az.mk (Kd.C_below HR.out hb); clear z0 z1 y0 y1; have y0 : w10.cell? ⟨g4, 0, none⟩ = some (.int .i64 G) := (bZ BK4.out 0).trans rfl; have y1 : w10.cell? ⟨g4, 1, none⟩ = some (.slice A n c) := (bZ BK4.out 1).trans rfl; clear hb HE HR) | (go_at_call 18; refine (turned_any G A c n w2.heap.size (fun k => k < w3.heap.size) x0 _ HN.out.symm (HN.out ▸ wide_S46 HX.out) (Nat.le_trans HXsz.out (Nat.le_trans Hg4.out (Nat.le_of_lt (blk_lt BK4.out)))) HI.out).mono ?_; rintro e w12 ⟨⟨u, rfl⟩, fs2, hlen, hin, hS, hb, hk⟩; have HB_ := Az.mk (HB.out.trans (hb.mono HWl.out)); have BK4_ := Az.mk ((hk.2 g4 (blk_lt BK4.out) (fun h => by have := Hg4.out; omega)).trans BK4.out); have HF := Az.mk hS; have HIn := Az.mk hin; have HLn : Az (n = fs2.length) := ⟨hlen.symm⟩; obtain ⟨bs2, hbs2⟩ : ∃ bs, bs = encOut G fs2 := ⟨_, rfl⟩; obtain ⟨m2, hm2⟩ : ∃ m, m = bs2.length := ⟨_, rfl⟩; have hml2 : m2 ≤ 9223372036854775807 := (by rw [hm2, hbs2]; exact enc_out_len G fs2); have HBs2 := Az.mk hbs2; have HM2 := Az.mk hm2; have HMl2 := Az.mk hml2; clear y0 y1 HB BK1 BK4 HX hS hin hlen hb hk hbs2 hm2; have HB := HB_; have BK4 := BK4_; clear HB_ BK4_; have y0 : w12.cell? ⟨g4, 0, none⟩ = some (.int .i64 G) := (bZ BK4.out 0).trans rfl; have y1 : w12.cell? ⟨g4, 1, none⟩ = some (.slice A n c) := (bZ BK4.out 1).trans rfl) | (go_at_call 19; (with_reducible refine (c_copy HIn.out HLn.out (plain_reads HLn.out HF.out).1 (plain_reads HLn.out HF.out).2).mono ?_); rintro e w13 ⟨A2, c2, rfl, hC, hb⟩; replace HB := Az.mk (HB.out.trans (hb.mono HB.out.size)); replace BK4 := Az.mk (kZ BK4.out hb); replace HF := Az.mk (Kd.S_below HF.out hb); have HQ := Az.mk hC.1; have HQc := Az.mk hC.2; clear y0 y1 hb hC) | ((with_reducible refine gate_dst (N := 10) rfl ?_); refine box_event ?hg (N := 10) ?hd (cs := #[.int .i64 0, .slice none 0 0]) (t := 24) ?hr ?_; (case hd => rfl); (case hg => rfl); (case hr => first | (go_simp; done) | (go_simp; rfl)); intro g8 hg w14 hbox hb; have HN8 : Az (g4 < g8) := ⟨by have := blk_lt BK4.out; omega⟩; have HF8 : Az (w13.heap.size ≤ g8) := ⟨Nat.le_of_eq hg.symm⟩; have HBox : Az (Below w13.heap.size w13 w14) := ⟨hb⟩; have HQ0 := Az.mk HQ.out; replace HF := Az.mk (Kd.S_mono (Kd.S_bound HF.out) (fun k hk => hk.2.2.1 : ∀ k, _ → k < w13.heap.size)); have G8 : Az (W.heap.size ≤ g8) := ⟨by have := HB.out.size; omega⟩; replace HB := Az.mk (HB.out.trans (hb.mono HB.out.size)); replace BK4 := Az.mk (kZ BK4.out hb); replace HF := Az.mk (Kd.S_below HF.out hb); replace HQ := Az.mk (Kd.C_below HQ.out hb); have BK8 := Az.mk hbox; clear hg hbox hb) | ((with_reducible refine gate_ (.store 24 (.tmp 10) (.tmp 46)) rfl ?_); refine blk_store rfl rfl 24 (.tmp 10) (.tmp 46) rfl 24 (cur2 := #[.int .i64 G, .slice A2 n c2]) _ [.int .i64 G, .slice A2 n c2] rfl rfl rfl size24 (one2 _ _ _ _) BK8.out (Nat.le_refl 2) rfl ?_; intro w15 hk hg; have HB_ := Az.mk (HB.out.grown hg HB.out.size (fun k hk => by injection hk with hk; have := G8.out; omega)); have HF_ := Az.mk (Kd.S_grown HF.out hg (fun k hk e => by injection e with e; have := HF8.out; omega)); have HQ_ := Az.mk (k46_heap.C (w1 := w15) (fun k hlt => (hg.block k (Nat.lt_of_lt_of_le hlt HBox.out.size) (fun e => by injection e with e; have := HF8.out; omega)).trans (HBox.out.block k hlt)) HQ0.out); have BK4_ := Az.mk ((hg.block g4 (blk_lt BK4.out) (fun e => by injection e with e; have := HN8.out; omega)).trans BK4.out); clear HB HF BK4 BK8 HQ; have HB := HB_; have HF := HF_; have HQ := HQ_; have BK4 := BK4_; have BK8 := Az.mk hk; clear HB_ HF_ HQ_ BK4_ hk hg; have y0 : w15.cell? ⟨g4, 0, none⟩ = some (.int .i64 G) := (bZ BK4.out 0).trans rfl; have y1 : w15.cell? ⟨g4, 1, none⟩ = some (.slice A n c) := (bZ BK4.out 1).trans rfl; have q0 : w15.cell? ⟨g8, 0, none⟩ = some (.int .i64 G) := (bZ BK8.out 0).trans rfl; have q1 : w15.cell? ⟨g8, 1, none⟩ = some (.slice A2 n c2) := (bZ BK8.out 1).trans rfl) | (go_at_call 20; (with_reducible refine (c_enc (Tab.below HT.out HB.out) HLn.out (plain_reads HLn.out HF.out).1 (plain_reads HLn.out HF.out).2 HBs2.out HM2.out).mono ?_); rintro e w16 ⟨A6, c6, rfl, hE, hb⟩; replace HB := Az.mk (HB.out.trans (hb.mono HB.out.size)); replace BK4 := Az.mk (kZ BK4.out hb); replace HF := Az.mk (Kd.S_below HF.out hb); replace HQ := Az.mk (Kd.C_below HQ.out hb); replace BK8 := Az.mk (kZ BK8.out hb); clear y0 y1 q0 q1; have q0 : w16.cell? ⟨g8, 0, none⟩ = some (.int .i64 G) := (bZ BK8.out 0).trans rfl; have q1 : w16.cell? ⟨g8, 1, none⟩ = some (.slice A2 n c2) := (bZ BK8.out 1).trans rfl; have HE2 := Az.mk hE.1; have HE2c := Az.mk hE.2; clear hb hE) | (go_at_call 21; (with_reducible refine (c_renc HLn.out HQ.out HQc.out HBs2.out HM2.out).mono ?_); rintro e w17 ⟨A8, c8, rfl, hE, hb⟩; replace HB := Az.mk (HB.out.trans (hb.mono HB.out.size)); replace BK4 := Az.mk (kZ BK4.out hb); replace HF := Az.mk (Kd.S_below HF.out hb); replace HQ := Az.mk (Kd.C_below HQ.out hb); replace BK8 := Az.mk (kZ BK8.out hb); replace HE2 := Az.mk (Kd.C_below HE2.out hb); have HR2 := Az.mk hE.1; have HR2c := Az.mk hE.2; clear hb hE q0 q1) | (go_at_call 22; (with_reducible refine (c_eqb HM2.out HMl2.out HE2.out HE2c.out HR2.out HR2c.out).mono ?_); rintro e w18 ⟨rfl, hb⟩; replace HB := Az.mk (HB.out.trans (hb.mono HB.out.size)); replace BK4 := Az.mk (kZ BK4.out hb); replace HF := Az.mk (Kd.S_below HF.out hb); replace HQ := Az.mk (Kd.C_below HQ.out hb); replace BK8 := Az.mk (kZ BK8.out hb); replace HE2 := Az.mk (Kd.C_below HE2.out hb); replace HR2 := Az.mk (Kd.C_below HR2.out hb); clear hb))
 go_ret
 exact ⟨rfl, HB.out⟩
end Go.Proofs.YteonppgdmhakoaaDoor.PC
namespace Go.Proofs.YteonppgdmhakoaaDoor.codeEncodes
open Go.Proofs.YteonppgdmhakoaaDoor.PC Go.ChangeShapes Go.WideShapes Go.ChangeAt Go.RowKit Go.Proofs.YteonppgdmhakoaaDoor.Open
set_option linter.unusedVariables false
theorem own : ownKnob Tryd.prog.godebug = none := by kernel_rfl
theorem laidOut : laidOutB Tryd.prog = true := by kernel_rfl
set_option maxRecDepth 100000 in
theorem contract (H : Type) (enc : TypeId × Value → H) (W : World) (base : Nat) (args : Array Value) (ds gs : List (DataW H)) (before : List MemPlace)
  (hval0 : ∀ (j : Nat) t v, Tryd.f4.params[j]? = some t → args[j]? = some v → Value.okWide Tryd.prog W .any base t v)
  (hW : DataW.Whole enc Tryd.prog Tryd.f4.params.toList Rows.codeEncodesSpec.vars false W args.toList ds gs before)
  (hsz0 : (DataW.weightsEach Tryd.prog (Tryd.f4.params.toList ++ Rows.codeEncodesSpec.plain.varTypes Tryd.prog) (ds ++ gs)).all (· ≤ reachBytes) = true)
  (hL : laidMetH Tryd.prog Rows.codeEncodesRow.laid W) :
  Calls Tryd.prog 4 args W fun e W' => ∃ v, e = .returned v ∧ Rows.codeEncodesSpec.post enc Tryd.prog Tryd.f4 false true false false W args v W' := by
 have hT : Tab W := tab_laid hL
 have hval := hval0
 have hsz := hsz0
 have hW' := hW
 obtain ⟨p, q, hA0, hV, rfl, hfz, hnd⟩ := hW
 have hA : DataW.TrodAll enc Tryd.prog W 0 (fun _ => true) true Tryd.f4.params.toList args.toList ds p := hA0
 rw [Tryd.params4] at hA hval hsz
 obtain ⟨v0, vs0, d0, ds0, p0, q0, hargs, rfl, rfl, h0, r0⟩ := trodAll_cons hA
 obtain ⟨rfl, rfl, rfl⟩ := trodAll_nil r0
 obtain rfl : args = #[v0] := by cases args; simp_all
 obtain ⟨rfl, rfl⟩ := trodVars_none hV
 have k0 := h0
 have lt0 : ∀ x ∈ p0, x.block < W.heap.size := by obtain ⟨m, hm⟩ := k0; exact DataW.trod_lt m _ _ _ hm
 have ov0 := (hval 0 24 v0 rfl rfl)
 obtain ⟨fu0, hf0⟩ := h0
 obtain ⟨x0, hK0, hok0⟩ := Rd.read (rd24) hf0 (weights_at hsz (j := 0) (t := 24) rfl rfl)
 obtain ⟨A0, c0, rfl, l0, g0⟩ := open24 ov0 hK0
 clear hA0 hval0 hsz0 hsz
 refine (encodes_any W l0 g0 hok0.2 hT).mono fun e W' ⟨he, bel⟩ => ?_
 subst he
 exact ⟨_, rfl, _, _, _, [], _, [], hW', trodAll_mk1 (shut_bool Tryd.underlying4 _), (trodAll_cons_mk (Below.trod laidOut (by kernel_rfl) (of_decide_eq_true (by kernel_rfl)) k0 bel lt0) trodAll_mk0), rfl, bel.frame _, fun h => by cases h⟩
theorem laid_met (os : Os) : laidMet Tryd.prog Rows.codeEncodesRow.laid ((laidWorld os).forCall (fun _ _ => 0) ⟨#[], #[.agg #[.int .i64 0, .slice none 0 0]], []⟩).memory :=
 laidMet_of_run' 8 (by kernel_rfl) (by kernel_rfl)
theorem reads (os : Os) {H : Type} (enc : TypeId × Value → H) : ∃ places, DataW.whole enc Tryd.prog ((laidWorld os).forCall (fun _ _ => 0) ⟨#[], #[.agg #[.int .i64 0, .slice none 0 0]], []⟩).memory Tryd.f4.params.toList Rows.codeEncodesSpec.vars false (#[.agg #[.int .i64 0, .slice none 0 0]] : Array Value).toList 8 = some ([.agg [.lit (.int .i64 0), .nil]], [], places) :=
 ⟨[], by kernel_rfl⟩
set_option maxRecDepth 100000 in
theorem lifted (os : Os) (started : os.Started) (H : Type) (enc : TypeId × Value → H) (F : Stop.Interp) :
  ReturnsInHanded {} Tryd.checked os 4 .any ((OpenSpec.ofChange Rows.codeEncodesSpec).preRow enc Tryd.prog Tryd.f4 Rows.codeEncodesRow.domain false Rows.codeEncodesRow.laid) (((OpenSpec.ofChange Rows.codeEncodesSpec).at F).post enc Tryd.prog Tryd.f4 false true false false) := by
 obtain ⟨places, hx⟩ := reads os enc
 refine returnsInHanded_of_row (C := Tryd.checked) (s := (OpenSpec.ofChange Rows.codeEncodesSpec)) own started (by kernel_rfl) Tryd.func4
  (witness_row_at (enc := enc) (C := Tryd.checked) false (laidWorld os) #[.agg #[.int .i64 0, .slice none 0 0]] rfl (by kernel_rfl) (by kernel_rfl) (by kernel_rfl)
   (OpenSpec.preRow_of_cond 8 hx (by kernel_rfl) (fun k hk => by cases hk) (by kernel_rfl) (laid_met os))) ?_
 intro W base args ds gs before hval hW _ _ hsz hL _ _
 exact contract H enc W base args ds gs before hval hW hsz hL
theorem said : Rows.CodeEncodesSaid :=
 OpenClaim.holds_of_cond 4 Tryd.f4 rfl rfl rfl rfl rfl rfl rfl ⟨rfl, rfl, rfl, rfl, rfl⟩ rfl rfl rfl rfl rfl (by kernel_rfl) Tryd.func4 (by kernel_rfl)
  (of_decide_eq_true (by kernel_rfl)) (by unfold Func.isWrapper; first | (rw [if_pos (by decide +kernel)]; kernel_rfl) | (rw [if_neg (by decide +kernel)]; exact ⟨rfl, rfl⟩))
  (fun os started H enc _ F => by rw [OpenClaim.pre_eq_preRow]; exact lifted os started H enc F)
theorem plain (f : FuncId) (fn : Func) (hf : Tryd.pinned.checked.prog.funcNamed "fugue/fuguelaw01.CodeEncodes" = some f) (hfn : Tryd.pinned.checked.prog.funcs[f]? = some fn) :
  true = Tryd.pinned.checked.prog.looks [] ∧ ∀ (j : Nat) t, fn.params[j]? = some t → Tryd.pinned.checked.prog.wantsStandIn t = false := by
 obtain rfl : f = 4 := Option.some.inj ((show Tryd.prog.funcNamed "fugue/fuguelaw01.CodeEncodes" = some 4 by kernel_rfl).symm.trans hf) |>.symm
 obtain rfl : fn = Tryd.f4 := (Option.some.inj (Tryd.func4.symm.trans hfn)).symm
 refine ⟨by kernel_rfl, fun j t ht => ?_⟩
 rw [Tryd.params4] at ht
 have hm := Array.mem_of_getElem? ht
 simp only [List.mem_toArray, List.mem_cons, List.not_mem_nil, or_false] at hm
 rcases hm with rfl
 ·exact (show Tryd.prog.wantsStandIn 24 = false by kernel_rfl)
theorem card : Rows.CodeEncodesCardSaid :=
 Claim7.holds_tied_plain_at .later [] _ _ _ _ said (fun _ h => by cases h) (by kernel_rfl) (fun _ h => by cases h) codeEncodes_row_tie rfl ⟨rfl, rfl⟩ (by kernel_rfl) rfl plain (by kernel_rfl)
#print axioms card
end Go.Proofs.YteonppgdmhakoaaDoor.codeEncodes
namespace Go.Proofs.YteonppgdmhakoaaDoor
theorem codeEncodes_holds : Rows.CodeEncodesCardSaid := codeEncodes.card
end Go.Proofs.YteonppgdmhakoaaDoor
