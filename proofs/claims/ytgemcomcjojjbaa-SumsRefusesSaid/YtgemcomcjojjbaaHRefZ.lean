/- SumsRefuses of a function without parameters. No conditions. -/
import Derived.Test.YtgemcomcjojjbaaHRefP
namespace Go.Proofs.Ytgemcomcjojjbaa.PS
open Go.RowKit Go.Proofs.YtgemcomcjojjbaaW.PrintWords Go.Proofs.YtgemcomcjojjbaaW.PrintLast Go.Proofs.YtgemcomcjojjbaaW.PrintMore
set_option linter.unusedVariables false
set_option linter.unusedSimpArgs false

set_option maxHeartbeats 80000000 in
set_option maxRecDepth 100000 in
theorem ref_walkZ (p r n z : Int) (la lb lc : List Int) (A B C : Option Addr) (ca_ cb_ cc_ : Nat) (P R : Int) (s : S31) (k1 : Nat) (W : World) (hA : kI.C W A la.length la) (lA : la.length ≤ ca_) (e1 : fuguelaw09_shaped.f k1 p r la = some (P, R, 0, [], s.f0, s.f1)) (hP0 : (P == 0) = true) :
    Calls Try.prog 4 #[.agg #[.int .i64 p, .int .i64 r, .slice A la.length ca_, .slice B lb.length cb_, .slice C lc.length cc_], .int .i64 n, .int .i64 z] W fun e w' => e = .returned (.bool true) ∧ Below W.heap.size W w' := by
  have HFx := Aside0.mk fixed_any
  have HCs := Aside0.mk hA
  have HLs := Aside0.mk lA
  have He1 := Aside0.mk e1
  have HW := Aside0.mk (Below.refl W.heap.size W)
  clear hA lA e1
  go_enter Try.func4, Try.ntmps4
  go_wp2_with ((with_reducible refine gate_dst (N := 3) rfl ?_); refine box_event ?hg (N := 3) ?hd (cs := #[.int .i64 p, .int .i64 r, .slice A la.length ca_, .slice B lb.length cb_, .slice C lc.length cc_]) (t := 24) ?hr ?_; (case hd => rfl); (case hg => rfl); (case hr => first | (go_simp; done) | (go_simp; rfl)); intro g3 hg w_0 hbox hb; have BX := Aside0.mk hbox; have HW_ := Aside0.mk (HW.out.trans (hb.mono HW.out.size)); clear HW hg hbox hb; have HW := HW_; clear HW_)
  refine (HFx.out _).mono ?_
  rintro e w_1 ⟨rfl, hb⟩
  have BX_ := Aside0.mk (blk_below BX.out hb)
  have HW_ := Aside0.mk (HW.out.trans (hb.mono HW.out.size))
  clear BX HW
  have BX := BX_
  have HW := HW_
  clear BX_ HW_
  clear hb HFx
  go_wp2_with ((with_reducible refine gate_dst (N := 25) rfl ?_); refine Aside0.out ?_)
  refine ⟨?_⟩
  have hx0 : _ = some (Value.int .i64 p) := (blk_cell BX.out 0).trans rfl
  have hx1 : _ = some (Value.int .i64 r) := (blk_cell BX.out 1).trans rfl
  have hx2 : _ = some (Value.slice A la.length ca_) := (blk_cell BX.out 2).trans rfl
  go_wp2_with fail
  refine (shapedC (S := s) A ca_ _ (Kd.C_below HCs.out HW.out) HLs.out He1.out).mono ?_
  rintro e w_2 ⟨Fs, fs, As, cs, Bs, ds, rfl, l0, k0, l1, k1, hb⟩
  clear hx0 hx1 hx2
  have BX_ := Aside0.mk (blk_below BX.out hb)
  have HW_ := Aside0.mk (HW.out.trans (hb.mono HW.out.size))
  clear BX HW
  have BX := BX_
  have HW := HW_
  clear BX_ HW_
  clear hb
  have Hl0 := Aside0.mk l0
  have Hl1 := Aside0.mk l1
  have Hk0 := Aside0.mk k0
  have Hk1 := Aside0.mk k1
  clear l0 l1 k0 k1
  go_wp2_with (first | ((with_reducible refine gate_dst (N := 8) rfl ?_); refine box_event ?hg (N := 8) ?hd (cs := #[.int .i64 0, .int .i64 0, .int .i64 0, .slice none 0 0]) (t := 28) ?hr ?_; (case hd => rfl); (case hg => rfl); (case hr => first | (go_simp; done) | (go_simp; rfl)); intro g8 hg w_3 hbox hb; have HG1 := Aside0.mk hg; have HB1 := Aside0.mk hb; have BK1 := Aside0.mk hbox; clear hg hbox hb) | ((with_reducible refine gate_dst (N := 9) rfl ?_); refine box_event ?hg (N := 9) ?hd (cs := #[.slice none 0 0, .slice none 0 0]) (t := 31) ?hr ?_; (case hd => rfl); (case hg => rfl); (case hr => first | (go_simp; done) | (go_simp; rfl)); intro g9 hg w_4 hbox hb; have HG2 : Aside0 (w_2.heap.size ≤ g9) := ⟨by rw [hg]; exact HB1.out.size⟩; have HB2 := Aside0.mk (HB1.out.trans (hb.mono HB1.out.size)); have BK1_ := Aside0.mk (blk_below BK1.out hb); have BK2 := Aside0.mk hbox; clear hg hbox hb BK1 HB1; have BK1 := BK1_; clear BK1_; have hne : g8 ≠ g9 := blk_ne BK1.out BK2.out (by decide); have hz0 : w_4.cell? ⟨g8, 0, none⟩ = some (.int .i64 0) := (blk_cell BK1.out 0).trans rfl; have hf0 := blk_frozen BK1.out 0; have hz1 : w_4.cell? ⟨g8, 1, none⟩ = some (.int .i64 0) := (blk_cell BK1.out 1).trans rfl; have hf1 := blk_frozen BK1.out 1; have hz2 : w_4.cell? ⟨g8, 2, none⟩ = some (.int .i64 0) := (blk_cell BK1.out 2).trans rfl; have hf2 := blk_frozen BK1.out 2; have hz3 : w_4.cell? ⟨g8, 3, none⟩ = some (.slice none 0 0) := (blk_cell BK1.out 3).trans rfl; have hf3 := blk_frozen BK1.out 3; have hz4 : w_4.cell? ⟨g9, 0, none⟩ = some (.slice none 0 0) := (blk_cell BK2.out 0).trans rfl; have hf4 := blk_frozen BK2.out 0; have hz5 : w_4.cell? ⟨g9, 1, none⟩ = some (.slice none 0 0) := (blk_cell BK2.out 1).trans rfl; have hf5 := blk_frozen BK2.out 1) | ((with_reducible refine gate_dst (N := 34) rfl ?_); refine Aside0.out ?_))
  clear hne hz0 hf0 hz1 hf1 hz2 hf2 hz3 hf3 hz4 hf4 hz5 hf5
  obtain ⟨hb1, hb2, hb⟩ := two_stored (x0 := .int .i64 P) (x1 := .int .i64 R) (x2 := .int .i64 0) (x3 := .slice Fs 0 fs) (x4 := .slice As s.f0.length cs) (x5 := .slice Bs s.f1.length ds) BK1.out BK2.out HB2.out (Nat.le_of_eq HG1.out.symm) HG2.out
  obtain ⟨w_5, hw⟩ : ∃ w, w = ((((((w_4.setCell ⟨g8, 0, none⟩ (.int .i64 P)).setCell ⟨g8, 1, none⟩ (.int .i64 R)).setCell ⟨g8, 2, none⟩ (.int .i64 0)).setCell ⟨g8, 3, none⟩ (.slice Fs 0 fs)).setCell ⟨g9, 0, none⟩ (.slice As s.f0.length cs)).setCell ⟨g9, 1, none⟩ (.slice Bs s.f1.length ds)) := ⟨_, rfl⟩
  rw [← hw] at hb1 hb2 hb ⊢
  clear hw
  have BX_ := Aside0.mk (blk_below BX.out hb)
  have HW_ := Aside0.mk (HW.out.trans (hb.mono HW.out.size))
  clear BX HW
  have BX := BX_
  have HW := HW_
  clear BX_ HW_
  have HSs : Aside0 (SumC w_5 g9 As cs Bs ds s) := ⟨⟨hb2, Hl0.out, Kd.C_below Hk0.out hb, Hl1.out, Kd.C_below Hk1.out hb⟩⟩
  have BF := Aside0.mk hb1
  clear hb1 hb2 hb Hl0 Hl1 Hk0 Hk1 BK1 BK2 HB2 HG1 HG2
  clear BX HCs HLs He1
  refine ⟨?_⟩
  have hz0 : _ = some (Value.int .i64 P) := (blk_cell BF.out 0).trans rfl
  have hz1 : _ = some (Value.int .i64 R) := (blk_cell BF.out 1).trans rfl
  have hz2 : _ = some (Value.int .i64 0) := (blk_cell BF.out 2).trans rfl
  have hz3 : _ = some (Value.slice Fs 0 fs) := (blk_cell BF.out 3).trans rfl
  go_simp
  repeat (first | go_skip | go_guarded | go_step | go_upon)
  go_ret
  exact ⟨rfl, HW.out⟩
end Go.Proofs.Ytgemcomcjojjbaa.PS
