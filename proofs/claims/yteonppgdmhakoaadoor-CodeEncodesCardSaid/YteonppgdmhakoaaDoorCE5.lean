/- What a proof of this seat needs, laid together by a program of the session's. No conditions. -/
import Derived.Test.YteonppgdmhakoaaDoorCE4
import Derived.Test.YteonppgdmhakoaaDoorCE1
import Derived.Test.YteonppgdmhakoaaDoorCE2
namespace Go.Proofs.YteonppgdmhakoaaDoor.PC
open Go.RowKit Go.Proofs.YteonppgdmhakoaaDoorW.PrintWords Go.Proofs.YteonppgdmhakoaaDoorW.PrintLast Go.Proofs.YteonppgdmhakoaaDoorW.PrintMore
set_option linter.unusedVariables false
set_option linter.unusedSimpArgs false
def TAB_65.T9 : Bool × List (List Nat × List Nat) := (true, [([], []), ([], []), ([], []), ([], []), ([2, 3], [2, 3]), ([4], [4]), ([0, 1, 5], [0, 1, 5])])
def TAB_65.B9 : List Nat := [0, 0, 0, 0, 12, 28, 63]
theorem TAB_65.tab9 : rtab .any (opsOf Tryd.f65 9) = TAB_65.T9 := by kernel_rfl
theorem TAB_65.bits9 : waitsOk TAB_65.T9.2 TAB_65.B9 = true := by kernel_rfl
def varsE (V : Int) (l : List Int) : Int := if l.all (varB V) = true then 0 else 13
theorem vars_step (V : Int) (l : List Int) (q : Nat) (h : q < l.length) (e : Int) : mustE (varB V l[q]) 13 (seqE e (varsE V (l.take q))) = seqE e (varsE V (l.take (q + 1))) := by
 rw [mustE_seq, seqE_assoc]
 refine congrArg _ ?_
 unfold varsE
 rw [take_all V l q h]
 by_cases h1 : (l.take q).all (varB V) = true
 ·rw [if_pos h1, h1, Bool.true_and, seqE_zero]
 ·rw [if_neg h1, seqE_ne (by decide), if_neg (by rw [Bool.and_eq_true]; exact fun h => h1 h.1)]
theorem list_fin (W V : Int) (l : List Int) : seqE (mustE ((l.length : Int) == W) 15 0) (varsE V l) = listE W V l := by
 rw [mustE_seq, seqE_zero]
 unfold listE varsE
 by_cases h : (l.length : Int) = W
 ·rw [if_pos h, beq_iff_eq.2 h, if_pos rfl, seqE_zero]
 ·rw [if_neg h, beq_eq_false_iff_ne.2 h, if_neg (by decide), seqE_ne (by decide)]
theorem WantW.below {Wz w : World} {A : Option Addr} {m : Nat} {p R f4 W : Int} (h : WantW Wz A m p R f4 W) (hb : Below Wz.heap.size Wz w) : WantW w A m p R f4 W := by
 rcases h with ⟨h1, q, ad, h2, h3, h4, h5⟩ | ⟨h1, q, ad, h2, h3, h4, h5⟩ | h
 ·exact .inl ⟨h1, q, ad, h2, h3, h4, cZ hb h5⟩
 ·exact .inr (.inl ⟨h1, q, ad, h2, h3, h4, cZ hb h5⟩)
 ·exact .inr (.inr h)
section
variable {Wz w0 w w' : World} {g : Nat} {G : Int} {A : Option Addr} {m c : Nat} {locs err : Int}
set_option maxHeartbeats 16000000 in
set_option maxRecDepth 100000 in
theorem rlist_any (p P R V : Int) (A3 : Option Addr) (n3 c3 : Nat) (f0 f1 f2 f3 f4 : Int) (A5 : Option Addr) (n5 c5 : Nat) (A6 : Option Addr) (n6 c6 : Nat) (l5 l6 : List Int) (W : Int) (h : Wk Wz w0 w g G A m c locs err) (hp : p = 65 ∨ p = 66 ∨ p = 86)
  (hw : err = 0 → WantW Wz A m p R f4 W) (hm : m ≤ 9223372036854775807) (h5 : (Kd.int .i64).C Wz A5 n5 l5) (h6 : (Kd.int .i64).C Wz A6 n6 l6) (hl5 : n5 = l5.length) (hl6 : n6 = l6.length) :
  Calls Tryd.prog 65 #[.pointer (some ⟨g, 0, none⟩), .int .u8 p, .agg #[.int .i64 P, .int .i64 R, .int .i64 V, .slice A3 n3 c3], .agg #[.int .i64 f0, .int .i64 f1, .int .i64 f2, .int .i64 f3, .int .i64 f4, .slice A5 n5 c5, .slice A6 n6 c6]] w fun r w' =>
   r = .returned (.tuple #[]) ∧ Wk Wz w0 w' g G A m c locs (seqE err (listE W V (if p = 66 then l6 else l5))) := by
 have HH := Az.mk h
 have HB := Az.mk (Below.refl w.heap.size w)
 have HGl : Az (g < w.heap.size) := ⟨blk_lt HH.out.blk⟩
 have Hm := Az.mk hm
 have hm5 : n5 ≤ 9223372036854775807 := by rw [hl5]; exact Kd.C_max (hl5 ▸ h5)
 have hm6 : n6 ≤ 9223372036854775807 := by rw [hl6]; exact Kd.C_max (hl6 ▸ h6)
 have H5 := Az.mk h5
 have H6 := Az.mk h6
 have L5 := Az.mk hl5
 have L6 := Az.mk hl6
 have HWa := Az.mk hw
 have HP3 := Az.mk hp
 clear h hm h5 h6 hl5 hl6 hw hp
 by_cases e0 : err = 0
 case neg =>
  rw [seqE_ne e0]
  have e0b : (err == 0) = false := beq_eq_false_iff_ne.2 e0
  have e0c : (err != 0) = true := bne_iff_ne.2 e0
  clear e0
  by_cases hp6 : p = 66
  ·have hp6b : (p == 66) = true := beq_iff_eq.2 hp6
   clear hp6
   go_enter Tryd.func65, Tryd.ntmps65
   go_wp2_with (first | ((with_reducible refine gate_dst (N := 6) rfl ?_); refine box_event ?hg (N := 6) ?hd (cs := #[.int .i64 P, .int .i64 R, .int .i64 V, .slice A3 n3 c3]) (t := 46) ?hr ?_; (case hd => rfl); (case hg => rfl); (case hr => first | (go_simp; done) | (go_simp; rfl)); intro g6 hg w6 hbox hb; have G6 : Az (w.heap.size ≤ g6) := ⟨by have := HB.out.size; omega⟩; replace HB := Az.mk (HB.out.trans (hb.mono HB.out.size)); replace HH := Az.mk (HH.out.below hb); have BK6 := Az.mk hbox; clear hg hbox hb; have NE6 : Az (g6 ≠ g) := ⟨by have := G6.out; have := HGl.out; omega⟩) | ((with_reducible refine gate_dst (N := 7) rfl ?_); refine box_event ?hg (N := 7) ?hd (cs := #[.int .i64 f0, .int .i64 f1, .int .i64 f2, .int .i64 f3, .int .i64 f4, .slice A5 n5 c5, .slice A6 n6 c6]) (t := 50) ?hr ?_; (case hd => rfl); (case hg => rfl); (case hr => first | (go_simp; done) | (go_simp; rfl)); intro g7 hg w7 hbox hb; have G7 : Az (w.heap.size ≤ g7) := ⟨by have := HB.out.size; omega⟩; replace HB := Az.mk (HB.out.trans (hb.mono HB.out.size)); replace HH := Az.mk (HH.out.below hb); replace BK6 := Az.mk (kZ BK6.out hb); have BK7 := Az.mk hbox; clear hg hbox hb; have NE7 : Az (g7 ≠ g) := ⟨by have := G7.out; have := HGl.out; omega⟩; have y0 : World.cell? w7 ⟨g6, 0, none⟩ = some (.int .i64 P) := (bZ BK6.out 0).trans rfl; have y1 : World.cell? w7 ⟨g6, 1, none⟩ = some (.int .i64 R) := (bZ BK6.out 1).trans rfl; have y2 : World.cell? w7 ⟨g6, 2, none⟩ = some (.int .i64 V) := (bZ BK6.out 2).trans rfl; have y3 : World.cell? w7 ⟨g6, 3, none⟩ = some (.slice A3 n3 c3) := (bZ BK6.out 3).trans rfl; have z0 : World.cell? w7 ⟨g7, 0, none⟩ = some (.int .i64 f0) := (bZ BK7.out 0).trans rfl; have z1 : World.cell? w7 ⟨g7, 1, none⟩ = some (.int .i64 f1) := (bZ BK7.out 1).trans rfl; have z2 : World.cell? w7 ⟨g7, 2, none⟩ = some (.int .i64 f2) := (bZ BK7.out 2).trans rfl; have z3 : World.cell? w7 ⟨g7, 3, none⟩ = some (.int .i64 f3) := (bZ BK7.out 3).trans rfl; have z4 : World.cell? w7 ⟨g7, 4, none⟩ = some (.int .i64 f4) := (bZ BK7.out 4).trans rfl; have z5 : World.cell? w7 ⟨g7, 5, none⟩ = some (.slice A5 n5 c5) := (bZ BK7.out 5).trans rfl; have z6 : World.cell? w7 ⟨g7, 6, none⟩ = some (.slice A6 n6 c6) := (bZ BK7.out 6).trans rfl; have p3 := HH.out.c3))
   go_wp2_with fail
   first | go_end0 | ((try simp only [Exit.inBlock, Exit.then]); refine bodyPost_ret (results_none rfl _ _ _) rfl ?_)
   exact ⟨rfl, HH.out⟩
  ·have hp6b : (p == 66) = false := beq_eq_false_iff_ne.2 hp6
   clear hp6
   go_enter Tryd.func65, Tryd.ntmps65
   go_wp2_with (first | ((with_reducible refine gate_dst (N := 6) rfl ?_); refine box_event ?hg (N := 6) ?hd (cs := #[.int .i64 P, .int .i64 R, .int .i64 V, .slice A3 n3 c3]) (t := 46) ?hr ?_; (case hd => rfl); (case hg => rfl); (case hr => first | (go_simp; done) | (go_simp; rfl)); intro g6 hg w6 hbox hb; have G6 : Az (w.heap.size ≤ g6) := ⟨by have := HB.out.size; omega⟩; replace HB := Az.mk (HB.out.trans (hb.mono HB.out.size)); replace HH := Az.mk (HH.out.below hb); have BK6 := Az.mk hbox; clear hg hbox hb; have NE6 : Az (g6 ≠ g) := ⟨by have := G6.out; have := HGl.out; omega⟩) | ((with_reducible refine gate_dst (N := 7) rfl ?_); refine box_event ?hg (N := 7) ?hd (cs := #[.int .i64 f0, .int .i64 f1, .int .i64 f2, .int .i64 f3, .int .i64 f4, .slice A5 n5 c5, .slice A6 n6 c6]) (t := 50) ?hr ?_; (case hd => rfl); (case hg => rfl); (case hr => first | (go_simp; done) | (go_simp; rfl)); intro g7 hg w7 hbox hb; have G7 : Az (w.heap.size ≤ g7) := ⟨by have := HB.out.size; omega⟩; replace HB := Az.mk (HB.out.trans (hb.mono HB.out.size)); replace HH := Az.mk (HH.out.below hb); replace BK6 := Az.mk (kZ BK6.out hb); have BK7 := Az.mk hbox; clear hg hbox hb; have NE7 : Az (g7 ≠ g) := ⟨by have := G7.out; have := HGl.out; omega⟩; have y0 : World.cell? w7 ⟨g6, 0, none⟩ = some (.int .i64 P) := (bZ BK6.out 0).trans rfl; have y1 : World.cell? w7 ⟨g6, 1, none⟩ = some (.int .i64 R) := (bZ BK6.out 1).trans rfl; have y2 : World.cell? w7 ⟨g6, 2, none⟩ = some (.int .i64 V) := (bZ BK6.out 2).trans rfl; have y3 : World.cell? w7 ⟨g6, 3, none⟩ = some (.slice A3 n3 c3) := (bZ BK6.out 3).trans rfl; have z0 : World.cell? w7 ⟨g7, 0, none⟩ = some (.int .i64 f0) := (bZ BK7.out 0).trans rfl; have z1 : World.cell? w7 ⟨g7, 1, none⟩ = some (.int .i64 f1) := (bZ BK7.out 1).trans rfl; have z2 : World.cell? w7 ⟨g7, 2, none⟩ = some (.int .i64 f2) := (bZ BK7.out 2).trans rfl; have z3 : World.cell? w7 ⟨g7, 3, none⟩ = some (.int .i64 f3) := (bZ BK7.out 3).trans rfl; have z4 : World.cell? w7 ⟨g7, 4, none⟩ = some (.int .i64 f4) := (bZ BK7.out 4).trans rfl; have z5 : World.cell? w7 ⟨g7, 5, none⟩ = some (.slice A5 n5 c5) := (bZ BK7.out 5).trans rfl; have z6 : World.cell? w7 ⟨g7, 6, none⟩ = some (.slice A6 n6 c6) := (bZ BK7.out 6).trans rfl; have p3 := HH.out.c3))
   go_wp2_with fail
   first | go_end0 | ((try simp only [Exit.inBlock, Exit.then]); refine bodyPost_ret (results_none rfl _ _ _) rfl ?_)
   exact ⟨rfl, HH.out⟩
 subst e0
 rw [seqE_zero]
 have HWt := Az.mk (HWa.out rfl)
 clear HWa
 by_cases hp6 : p = 66
 ·rw [if_pos hp6]
  have hp6b : (p == 66) = true := beq_iff_eq.2 hp6
  clear hp6
  go_enter Tryd.func65, Tryd.ntmps65
  go_wp2_with (first | ((with_reducible refine gate_dst (N := 6) rfl ?_); refine box_event ?hg (N := 6) ?hd (cs := #[.int .i64 P, .int .i64 R, .int .i64 V, .slice A3 n3 c3]) (t := 46) ?hr ?_; (case hd => rfl); (case hg => rfl); (case hr => first | (go_simp; done) | (go_simp; rfl)); intro g6 hg w6 hbox hb; have G6 : Az (w.heap.size ≤ g6) := ⟨by have := HB.out.size; omega⟩; replace HB := Az.mk (HB.out.trans (hb.mono HB.out.size)); replace HH := Az.mk (HH.out.below hb); have BK6 := Az.mk hbox; clear hg hbox hb; have NE6 : Az (g6 ≠ g) := ⟨by have := G6.out; have := HGl.out; omega⟩) | ((with_reducible refine gate_dst (N := 7) rfl ?_); refine box_event ?hg (N := 7) ?hd (cs := #[.int .i64 f0, .int .i64 f1, .int .i64 f2, .int .i64 f3, .int .i64 f4, .slice A5 n5 c5, .slice A6 n6 c6]) (t := 50) ?hr ?_; (case hd => rfl); (case hg => rfl); (case hr => first | (go_simp; done) | (go_simp; rfl)); intro g7 hg w7 hbox hb; have G7 : Az (w.heap.size ≤ g7) := ⟨by have := HB.out.size; omega⟩; replace HB := Az.mk (HB.out.trans (hb.mono HB.out.size)); replace HH := Az.mk (HH.out.below hb); replace BK6 := Az.mk (kZ BK6.out hb); have BK7 := Az.mk hbox; clear hg hbox hb; have NE7 : Az (g7 ≠ g) := ⟨by have := G7.out; have := HGl.out; omega⟩; have y0 : World.cell? w7 ⟨g6, 0, none⟩ = some (.int .i64 P) := (bZ BK6.out 0).trans rfl; have y1 : World.cell? w7 ⟨g6, 1, none⟩ = some (.int .i64 R) := (bZ BK6.out 1).trans rfl; have y2 : World.cell? w7 ⟨g6, 2, none⟩ = some (.int .i64 V) := (bZ BK6.out 2).trans rfl; have y3 : World.cell? w7 ⟨g6, 3, none⟩ = some (.slice A3 n3 c3) := (bZ BK6.out 3).trans rfl; have z0 : World.cell? w7 ⟨g7, 0, none⟩ = some (.int .i64 f0) := (bZ BK7.out 0).trans rfl; have z1 : World.cell? w7 ⟨g7, 1, none⟩ = some (.int .i64 f1) := (bZ BK7.out 1).trans rfl; have z2 : World.cell? w7 ⟨g7, 2, none⟩ = some (.int .i64 f2) := (bZ BK7.out 2).trans rfl; have z3 : World.cell? w7 ⟨g7, 3, none⟩ = some (.int .i64 f3) := (bZ BK7.out 3).trans rfl; have z4 : World.cell? w7 ⟨g7, 4, none⟩ = some (.int .i64 f4) := (bZ BK7.out 4).trans rfl; have z5 : World.cell? w7 ⟨g7, 5, none⟩ = some (.slice A5 n5 c5) := (bZ BK7.out 5).trans rfl; have z6 : World.cell? w7 ⟨g7, 6, none⟩ = some (.slice A6 n6 c6) := (bZ BK7.out 6).trans rfl; have p3 := HH.out.c3))
  refine (rwant_any p P R V A3 n3 c3 f0 f1 f2 f3 f4 A5 n5 c5 A6 n6 c6 W HH.out.at_ (HWt.out.below HH.out.bel) Hm.out).mono ?_
  rintro e wk1 ⟨rfl, hW⟩
  clear y0 y1 y2 y3 z0 z1 z2 z3 z4 z5 z6
  replace BK6 := Az.mk (hW.kp.blk BK6.out NE6.out (by simp))
  replace BK7 := Az.mk (hW.kp.blk BK7.out NE7.out (by simp))
  replace HH := Az.mk (HH.out.trans hW)
  clear hW
  go_wp2_with fail
  have HHn := Az.mk HH.out.at_
  refine (wmust_any ((n6 : Int) == W) 15 HH.out.at_).mono ?_
  rintro e wk2 ⟨rfl, hW⟩
  replace BK6 := Az.mk (hW.kp.blk BK6.out NE6.out (by simp))
  replace BK7 := Az.mk (hW.kp.blk BK7.out NE7.out (by simp))
  replace HH := Az.mk (HH.out.trans hW)
  clear hW
  clear HHn p3
  obtain ⟨e1, he1⟩ : ∃ e1, e1 = mustE ((n6 : Int) == W) 15 0 := ⟨_, rfl⟩
  have HE1 := Az.mk he1
  rw [← he1] at HH
  clear he1
  have HHs : Az (Wk Wz w0 wk2 g G A m c locs (seqE e1 (varsE V (l6.take 0)))) := ⟨by rw [show varsE V (l6.take 0) = 0 from rfl, seqE_right]; exact HH.out⟩
  go_wp2_with fail
  go_loopw [9] (fun v9 w' => ∃ q : Nat, q ≤ n6 ∧ v9 = .int .i64 (q : Int) ∧ Az (Wk Wz w0 w' g G A m c locs (seqE e1 (varsE V (l6.take q)))) ∧ Az (w'.heap[g6]? = some (.cells #[.int .i64 P, .int .i64 R, .int .i64 V, .slice A3 n3 c3] 46 (0, 0))) ∧ Az (w'.heap[g7]? = some (.cells #[.int .i64 f0, .int .i64 f1, .int .i64 f2, .int .i64 f3, .int .i64 f4, .slice A5 n5 c5, .slice A6 n6 c6] 50 (0, 0)))) (fun i _ => n6 - (intOf i).toNat)
  case atStart => exact ⟨0, Nat.zero_le _, rfl, HHs, BK6, BK7⟩
  case round =>
   clear HH HHs BK6 BK7
   obtain ⟨q, hq, rfl, HH, BK6, BK7⟩ := hrel
   by_cases hlt : q < n6
   ·have q0 : (0 : Int) ≤ (q : Int) := Int.natCast_nonneg q
    have q1 : (q : Int) < (n6 : Int) := Int.ofNat_lt.2 hlt
    have hql : q < l6.length := by rw [← L6.out]; exact hlt
    have hwp : wrap64 ((q : Int) + 1) = (q : Int) + 1 := wrap_in (by omega) (by omega)
    obtain ⟨ad, e0, hx⟩ := Kd.at_int (Kd.C_below H6.out HH.out.bel) (q : Int) q0 q1
    subst e0
    rw [rd_get l6 q hql, Int.toNat_natCast] at hx
    have HT := Az.mk (vars_step V l6 q hql e1)
    obtain ⟨v, hv⟩ : ∃ v, v = l6[q] := ⟨_, rfl⟩
    rw [← hv] at hx HT
    clear hv hql
    have y0 : World.cell? _ ⟨g6, 0, none⟩ = some (.int .i64 P) := (bZ BK6.out 0).trans rfl
    have y1 : World.cell? _ ⟨g6, 1, none⟩ = some (.int .i64 R) := (bZ BK6.out 1).trans rfl
    have y2 : World.cell? _ ⟨g6, 2, none⟩ = some (.int .i64 V) := (bZ BK6.out 2).trans rfl
    have y3 : World.cell? _ ⟨g6, 3, none⟩ = some (.slice A3 n3 c3) := (bZ BK6.out 3).trans rfl
    have z0 : World.cell? _ ⟨g7, 0, none⟩ = some (.int .i64 f0) := (bZ BK7.out 0).trans rfl
    have z1 : World.cell? _ ⟨g7, 1, none⟩ = some (.int .i64 f1) := (bZ BK7.out 1).trans rfl
    have z2 : World.cell? _ ⟨g7, 2, none⟩ = some (.int .i64 f2) := (bZ BK7.out 2).trans rfl
    have z3 : World.cell? _ ⟨g7, 3, none⟩ = some (.int .i64 f3) := (bZ BK7.out 3).trans rfl
    have z4 : World.cell? _ ⟨g7, 4, none⟩ = some (.int .i64 f4) := (bZ BK7.out 4).trans rfl
    have z5 : World.cell? _ ⟨g7, 5, none⟩ = some (.slice A5 n5 c5) := (bZ BK7.out 5).trans rfl
    have z6 : World.cell? _ ⟨g7, 6, none⟩ = some (.slice (some ad) n6 c6) := (bZ BK7.out 6).trans rfl
    go_wp2_with fail
    refine start_ (n := 7) (S := fun w' => w'.cell? ⟨g6, 0, none⟩ = some (.int .i64 P) ∧ w'.cell? ⟨g6, 1, none⟩ = some (.int .i64 R) ∧ w'.cell? ⟨g6, 2, none⟩ = some (.int .i64 V) ∧ w'.cell? ⟨g6, 3, none⟩ = some (.slice A3 n3 c3) ∧ w'.cell? (ad.add q) = some (.int .i64 v)) (ds := [6]) #[false, false, false, false, false, false, false] (by kernel_rfl) rfl rfl ⟨y0, y1, y2, y3, hx⟩ (fun hHeld => ?_)
    refine with_tabW TAB_65.tab9 TAB_65.bits9 (fun HT_ HW_ => ?_)
    refine pq 0 (some 37) HT_ rfl rfl (fun _ _ _ h => h) ?_
    refine pq 2 (some 39) HT_ rfl rfl (fun _ _ _ h => h) ?_
    refine pq 3 (some 40) HT_ rfl rfl (fun _ _ _ h => h) ?_
    refine pq 4 (some 41) HT_ rfl rfl (fun _ _ _ h => h) ?_
    refine pt 1 (some 38) (v := ?_) (a' := ?_) rfl rfl (take_ofW HT_.out HW_.out (by kernel_rfl)) (fun _ _ _ h => h) (Or.inl ⟨by rfl, ?_⟩) hHeld ?_ ?_
    rotate_left; (rintro w' ⟨s0, s1, s2, s3, s4⟩; go_simp; with_reducible rfl); rotate_left; (simp only [Act.put, pn, i64_w, i32_w]; rfl)
    refine pt 5 (some 42) (v := ?_) (a' := ?_) rfl rfl (take_ofW HT_.out HW_.out (by kernel_rfl)) (fun _ _ _ h => h) (Or.inl ⟨by rfl, ?_⟩) hHeld ?_ ?_
    rotate_left; (rintro w' ⟨s0, s1, s2, s3, s4⟩; go_simp; with_reducible rfl); rotate_left; (simp only [Act.put, pn, i64_w, i32_w]; rfl)
    refine last_ (i := 6) (N := some 43) #[true, true, true, true, true, true, true] rfl rfl (one_of HT_.out (by kernel_rfl)) (by decide) (fun K hK => ?_)
    refine goes_ Tryd.func64 (by kernel_rfl) rfl #[.pointer (some ⟨g, 0, none⟩), .agg #[.int .i64 P, .int .i64 R, .int .i64 V, .slice A3 n3 c3], .int .i64 v] (by rfl) rfl rfl (by simp only [List.map_toArray, List.map_cons, List.map_nil]; rfl) ?_
    with_reducible refine (wvar_any P R V A3 n3 c3 v HH.out.drew.at_).mono ?_
    rintro e_ wv ⟨rfl, hW⟩
    refine ⟨_, rfl, ?_⟩
    have HHv : Az (Wk Wz w0 wv g G A m c locs (seqE e1 (varsE V (l6.take (q + 1))))) := ⟨by rw [← HT.out]; exact HH.out.drew.trans hW⟩
    have B6v := Az.mk (hW.kp.blk (show (World.drew _).heap[g6]? = _ from BK6.out) NE6.out (by simp))
    have B7v := Az.mk (hW.kp.blk (show (World.drew _).heap[g7]? = _ from BK7.out) NE7.out (by simp))
    clear hW
    refine hK.out _ _ ?_
    clear hK K
    refine norm_ (a' := ?_) ?_ ?_
    rotate_left
    ·show Act.put _ (some 43) _ = _
     simp only [Act.put, pn, i64_w, i32_w]
     rfl
    refine done_ (done_of HT_.out (by kernel_rfl)) ?_
    clear HT_ HW_ hHeld
    clear y0 y1 y2 y3 z0 z1 z2 z3 z4 z5 z6 hx
    go_wp2_with fail
    go_round
    case rel => exact ⟨q + 1, by omega, by go_num, HHv, B6v, B7v⟩
    case measure => simp [intOf]; omega
   ·obtain rfl : n6 = q := by omega
    have y0 : World.cell? _ ⟨g6, 0, none⟩ = some (.int .i64 P) := (bZ BK6.out 0).trans rfl
    have y1 : World.cell? _ ⟨g6, 1, none⟩ = some (.int .i64 R) := (bZ BK6.out 1).trans rfl
    have y2 : World.cell? _ ⟨g6, 2, none⟩ = some (.int .i64 V) := (bZ BK6.out 2).trans rfl
    have y3 : World.cell? _ ⟨g6, 3, none⟩ = some (.slice A3 n3 c3) := (bZ BK6.out 3).trans rfl
    have z0 : World.cell? _ ⟨g7, 0, none⟩ = some (.int .i64 f0) := (bZ BK7.out 0).trans rfl
    have z1 : World.cell? _ ⟨g7, 1, none⟩ = some (.int .i64 f1) := (bZ BK7.out 1).trans rfl
    have z2 : World.cell? _ ⟨g7, 2, none⟩ = some (.int .i64 f2) := (bZ BK7.out 2).trans rfl
    have z3 : World.cell? _ ⟨g7, 3, none⟩ = some (.int .i64 f3) := (bZ BK7.out 3).trans rfl
    have z4 : World.cell? _ ⟨g7, 4, none⟩ = some (.int .i64 f4) := (bZ BK7.out 4).trans rfl
    have z5 : World.cell? _ ⟨g7, 5, none⟩ = some (.slice A5 n5 c5) := (bZ BK7.out 5).trans rfl
    have z6 : World.cell? _ ⟨g7, 6, none⟩ = some (.slice A6 n6 c6) := (bZ BK7.out 6).trans rfl
    go_wp2_with fail
    first | go_end0 | ((try simp only [Exit.inBlock, Exit.then]); refine bodyPost_ret (results_none rfl _ _ _) rfl ?_)
    refine ⟨rfl, ?_⟩
    have h := HH.out
    rw [L6.out, List.take_of_length_le (Nat.le_refl _), HE1.out, L6.out, list_fin] at h
    exact h
 ·rw [if_neg hp6]
  have hp6b : (p == 66) = false := beq_eq_false_iff_ne.2 hp6
  clear hp6
  go_enter Tryd.func65, Tryd.ntmps65
  go_wp2_with (first | ((with_reducible refine gate_dst (N := 6) rfl ?_); refine box_event ?hg (N := 6) ?hd (cs := #[.int .i64 P, .int .i64 R, .int .i64 V, .slice A3 n3 c3]) (t := 46) ?hr ?_; (case hd => rfl); (case hg => rfl); (case hr => first | (go_simp; done) | (go_simp; rfl)); intro g6 hg w6 hbox hb; have G6 : Az (w.heap.size ≤ g6) := ⟨by have := HB.out.size; omega⟩; replace HB := Az.mk (HB.out.trans (hb.mono HB.out.size)); replace HH := Az.mk (HH.out.below hb); have BK6 := Az.mk hbox; clear hg hbox hb; have NE6 : Az (g6 ≠ g) := ⟨by have := G6.out; have := HGl.out; omega⟩) | ((with_reducible refine gate_dst (N := 7) rfl ?_); refine box_event ?hg (N := 7) ?hd (cs := #[.int .i64 f0, .int .i64 f1, .int .i64 f2, .int .i64 f3, .int .i64 f4, .slice A5 n5 c5, .slice A6 n6 c6]) (t := 50) ?hr ?_; (case hd => rfl); (case hg => rfl); (case hr => first | (go_simp; done) | (go_simp; rfl)); intro g7 hg w7 hbox hb; have G7 : Az (w.heap.size ≤ g7) := ⟨by have := HB.out.size; omega⟩; replace HB := Az.mk (HB.out.trans (hb.mono HB.out.size)); replace HH := Az.mk (HH.out.below hb); replace BK6 := Az.mk (kZ BK6.out hb); have BK7 := Az.mk hbox; clear hg hbox hb; have NE7 : Az (g7 ≠ g) := ⟨by have := G7.out; have := HGl.out; omega⟩; have y0 : World.cell? w7 ⟨g6, 0, none⟩ = some (.int .i64 P) := (bZ BK6.out 0).trans rfl; have y1 : World.cell? w7 ⟨g6, 1, none⟩ = some (.int .i64 R) := (bZ BK6.out 1).trans rfl; have y2 : World.cell? w7 ⟨g6, 2, none⟩ = some (.int .i64 V) := (bZ BK6.out 2).trans rfl; have y3 : World.cell? w7 ⟨g6, 3, none⟩ = some (.slice A3 n3 c3) := (bZ BK6.out 3).trans rfl; have z0 : World.cell? w7 ⟨g7, 0, none⟩ = some (.int .i64 f0) := (bZ BK7.out 0).trans rfl; have z1 : World.cell? w7 ⟨g7, 1, none⟩ = some (.int .i64 f1) := (bZ BK7.out 1).trans rfl; have z2 : World.cell? w7 ⟨g7, 2, none⟩ = some (.int .i64 f2) := (bZ BK7.out 2).trans rfl; have z3 : World.cell? w7 ⟨g7, 3, none⟩ = some (.int .i64 f3) := (bZ BK7.out 3).trans rfl; have z4 : World.cell? w7 ⟨g7, 4, none⟩ = some (.int .i64 f4) := (bZ BK7.out 4).trans rfl; have z5 : World.cell? w7 ⟨g7, 5, none⟩ = some (.slice A5 n5 c5) := (bZ BK7.out 5).trans rfl; have z6 : World.cell? w7 ⟨g7, 6, none⟩ = some (.slice A6 n6 c6) := (bZ BK7.out 6).trans rfl; have p3 := HH.out.c3))
  refine (rwant_any p P R V A3 n3 c3 f0 f1 f2 f3 f4 A5 n5 c5 A6 n6 c6 W HH.out.at_ (HWt.out.below HH.out.bel) Hm.out).mono ?_
  rintro e wk1 ⟨rfl, hW⟩
  clear y0 y1 y2 y3 z0 z1 z2 z3 z4 z5 z6
  replace BK6 := Az.mk (hW.kp.blk BK6.out NE6.out (by simp))
  replace BK7 := Az.mk (hW.kp.blk BK7.out NE7.out (by simp))
  replace HH := Az.mk (HH.out.trans hW)
  clear hW
  go_wp2_with fail
  have HHn := Az.mk HH.out.at_
  refine (wmust_any ((n5 : Int) == W) 15 HH.out.at_).mono ?_
  rintro e wk2 ⟨rfl, hW⟩
  replace BK6 := Az.mk (hW.kp.blk BK6.out NE6.out (by simp))
  replace BK7 := Az.mk (hW.kp.blk BK7.out NE7.out (by simp))
  replace HH := Az.mk (HH.out.trans hW)
  clear hW
  clear HHn p3
  obtain ⟨e1, he1⟩ : ∃ e1, e1 = mustE ((n5 : Int) == W) 15 0 := ⟨_, rfl⟩
  have HE1 := Az.mk he1
  rw [← he1] at HH
  clear he1
  have HHs : Az (Wk Wz w0 wk2 g G A m c locs (seqE e1 (varsE V (l5.take 0)))) := ⟨by rw [show varsE V (l5.take 0) = 0 from rfl, seqE_right]; exact HH.out⟩
  go_wp2_with fail
  go_loopw [9] (fun v9 w' => ∃ q : Nat, q ≤ n5 ∧ v9 = .int .i64 (q : Int) ∧ Az (Wk Wz w0 w' g G A m c locs (seqE e1 (varsE V (l5.take q)))) ∧ Az (w'.heap[g6]? = some (.cells #[.int .i64 P, .int .i64 R, .int .i64 V, .slice A3 n3 c3] 46 (0, 0))) ∧ Az (w'.heap[g7]? = some (.cells #[.int .i64 f0, .int .i64 f1, .int .i64 f2, .int .i64 f3, .int .i64 f4, .slice A5 n5 c5, .slice A6 n6 c6] 50 (0, 0)))) (fun i _ => n5 - (intOf i).toNat)
  case atStart => exact ⟨0, Nat.zero_le _, rfl, HHs, BK6, BK7⟩
  case round =>
   clear HH HHs BK6 BK7
   obtain ⟨q, hq, rfl, HH, BK6, BK7⟩ := hrel
   by_cases hlt : q < n5
   ·have q0 : (0 : Int) ≤ (q : Int) := Int.natCast_nonneg q
    have q1 : (q : Int) < (n5 : Int) := Int.ofNat_lt.2 hlt
    have hql : q < l5.length := by rw [← L5.out]; exact hlt
    have hwp : wrap64 ((q : Int) + 1) = (q : Int) + 1 := wrap_in (by omega) (by omega)
    obtain ⟨ad, e0, hx⟩ := Kd.at_int (Kd.C_below H5.out HH.out.bel) (q : Int) q0 q1
    subst e0
    rw [rd_get l5 q hql, Int.toNat_natCast] at hx
    have HT := Az.mk (vars_step V l5 q hql e1)
    obtain ⟨v, hv⟩ : ∃ v, v = l5[q] := ⟨_, rfl⟩
    rw [← hv] at hx HT
    clear hv hql
    have y0 : World.cell? _ ⟨g6, 0, none⟩ = some (.int .i64 P) := (bZ BK6.out 0).trans rfl
    have y1 : World.cell? _ ⟨g6, 1, none⟩ = some (.int .i64 R) := (bZ BK6.out 1).trans rfl
    have y2 : World.cell? _ ⟨g6, 2, none⟩ = some (.int .i64 V) := (bZ BK6.out 2).trans rfl
    have y3 : World.cell? _ ⟨g6, 3, none⟩ = some (.slice A3 n3 c3) := (bZ BK6.out 3).trans rfl
    have z0 : World.cell? _ ⟨g7, 0, none⟩ = some (.int .i64 f0) := (bZ BK7.out 0).trans rfl
    have z1 : World.cell? _ ⟨g7, 1, none⟩ = some (.int .i64 f1) := (bZ BK7.out 1).trans rfl
    have z2 : World.cell? _ ⟨g7, 2, none⟩ = some (.int .i64 f2) := (bZ BK7.out 2).trans rfl
    have z3 : World.cell? _ ⟨g7, 3, none⟩ = some (.int .i64 f3) := (bZ BK7.out 3).trans rfl
    have z4 : World.cell? _ ⟨g7, 4, none⟩ = some (.int .i64 f4) := (bZ BK7.out 4).trans rfl
    have z5 : World.cell? _ ⟨g7, 5, none⟩ = some (.slice (some ad) n5 c5) := (bZ BK7.out 5).trans rfl
    have z6 : World.cell? _ ⟨g7, 6, none⟩ = some (.slice A6 n6 c6) := (bZ BK7.out 6).trans rfl
    go_wp2_with fail
    refine start_ (n := 7) (S := fun w' => w'.cell? ⟨g6, 0, none⟩ = some (.int .i64 P) ∧ w'.cell? ⟨g6, 1, none⟩ = some (.int .i64 R) ∧ w'.cell? ⟨g6, 2, none⟩ = some (.int .i64 V) ∧ w'.cell? ⟨g6, 3, none⟩ = some (.slice A3 n3 c3) ∧ w'.cell? (ad.add q) = some (.int .i64 v)) (ds := [6]) #[false, false, false, false, false, false, false] (by kernel_rfl) rfl rfl ⟨y0, y1, y2, y3, hx⟩ (fun hHeld => ?_)
    refine with_tabW TAB_65.tab9 TAB_65.bits9 (fun HT_ HW_ => ?_)
    refine pq 0 (some 37) HT_ rfl rfl (fun _ _ _ h => h) ?_
    refine pq 2 (some 39) HT_ rfl rfl (fun _ _ _ h => h) ?_
    refine pq 3 (some 40) HT_ rfl rfl (fun _ _ _ h => h) ?_
    refine pq 4 (some 41) HT_ rfl rfl (fun _ _ _ h => h) ?_
    refine pt 1 (some 38) (v := ?_) (a' := ?_) rfl rfl (take_ofW HT_.out HW_.out (by kernel_rfl)) (fun _ _ _ h => h) (Or.inl ⟨by rfl, ?_⟩) hHeld ?_ ?_
    rotate_left; (rintro w' ⟨s0, s1, s2, s3, s4⟩; go_simp; with_reducible rfl); rotate_left; (simp only [Act.put, pn, i64_w, i32_w]; rfl)
    refine pt 5 (some 42) (v := ?_) (a' := ?_) rfl rfl (take_ofW HT_.out HW_.out (by kernel_rfl)) (fun _ _ _ h => h) (Or.inl ⟨by rfl, ?_⟩) hHeld ?_ ?_
    rotate_left; (rintro w' ⟨s0, s1, s2, s3, s4⟩; go_simp; with_reducible rfl); rotate_left; (simp only [Act.put, pn, i64_w, i32_w]; rfl)
    refine last_ (i := 6) (N := some 43) #[true, true, true, true, true, true, true] rfl rfl (one_of HT_.out (by kernel_rfl)) (by decide) (fun K hK => ?_)
    refine goes_ Tryd.func64 (by kernel_rfl) rfl #[.pointer (some ⟨g, 0, none⟩), .agg #[.int .i64 P, .int .i64 R, .int .i64 V, .slice A3 n3 c3], .int .i64 v] (by rfl) rfl rfl (by simp only [List.map_toArray, List.map_cons, List.map_nil]; rfl) ?_
    with_reducible refine (wvar_any P R V A3 n3 c3 v HH.out.drew.at_).mono ?_
    rintro e_ wv ⟨rfl, hW⟩
    refine ⟨_, rfl, ?_⟩
    have HHv : Az (Wk Wz w0 wv g G A m c locs (seqE e1 (varsE V (l5.take (q + 1))))) := ⟨by rw [← HT.out]; exact HH.out.drew.trans hW⟩
    have B6v := Az.mk (hW.kp.blk (show (World.drew _).heap[g6]? = _ from BK6.out) NE6.out (by simp))
    have B7v := Az.mk (hW.kp.blk (show (World.drew _).heap[g7]? = _ from BK7.out) NE7.out (by simp))
    clear hW
    refine hK.out _ _ ?_
    clear hK K
    refine norm_ (a' := ?_) ?_ ?_
    rotate_left
    ·show Act.put _ (some 43) _ = _
     simp only [Act.put, pn, i64_w, i32_w]
     rfl
    refine done_ (done_of HT_.out (by kernel_rfl)) ?_
    clear HT_ HW_ hHeld
    clear y0 y1 y2 y3 z0 z1 z2 z3 z4 z5 z6 hx
    go_wp2_with fail
    go_round
    case rel => exact ⟨q + 1, by omega, by go_num, HHv, B6v, B7v⟩
    case measure => simp [intOf]; omega
   ·obtain rfl : n5 = q := by omega
    have y0 : World.cell? _ ⟨g6, 0, none⟩ = some (.int .i64 P) := (bZ BK6.out 0).trans rfl
    have y1 : World.cell? _ ⟨g6, 1, none⟩ = some (.int .i64 R) := (bZ BK6.out 1).trans rfl
    have y2 : World.cell? _ ⟨g6, 2, none⟩ = some (.int .i64 V) := (bZ BK6.out 2).trans rfl
    have y3 : World.cell? _ ⟨g6, 3, none⟩ = some (.slice A3 n3 c3) := (bZ BK6.out 3).trans rfl
    have z0 : World.cell? _ ⟨g7, 0, none⟩ = some (.int .i64 f0) := (bZ BK7.out 0).trans rfl
    have z1 : World.cell? _ ⟨g7, 1, none⟩ = some (.int .i64 f1) := (bZ BK7.out 1).trans rfl
    have z2 : World.cell? _ ⟨g7, 2, none⟩ = some (.int .i64 f2) := (bZ BK7.out 2).trans rfl
    have z3 : World.cell? _ ⟨g7, 3, none⟩ = some (.int .i64 f3) := (bZ BK7.out 3).trans rfl
    have z4 : World.cell? _ ⟨g7, 4, none⟩ = some (.int .i64 f4) := (bZ BK7.out 4).trans rfl
    have z5 : World.cell? _ ⟨g7, 5, none⟩ = some (.slice A5 n5 c5) := (bZ BK7.out 5).trans rfl
    have z6 : World.cell? _ ⟨g7, 6, none⟩ = some (.slice A6 n6 c6) := (bZ BK7.out 6).trans rfl
    go_wp2_with fail
    first | go_end0 | ((try simp only [Exit.inBlock, Exit.then]); refine bodyPost_ret (results_none rfl _ _ _) rfl ?_)
    refine ⟨rfl, ?_⟩
    have h := HH.out
    rw [L5.out, List.take_of_length_le (Nat.le_refl _), HE1.out, L5.out, list_fin] at h
    exact h
end
def TAB_36.T7 : Bool × List (List Nat × List Nat) := (true, [([], []), ([], []), ([], []), ([1, 2], [1, 2]), ([], []), ([4], [4]), ([], []), ([6], [6]), ([7], [7]), ([0, 3, 5, 8], [0, 3, 5, 8])])
def TAB_36.B7 : List Nat := [0, 0, 0, 6, 0, 16, 0, 64, 192, 511]
theorem TAB_36.tab7 : rtab .any (opsOf Tryd.f36 7) = TAB_36.T7 := by kernel_rfl
theorem TAB_36.bits7 : waitsOk TAB_36.T7.2 TAB_36.B7 = true := by kernel_rfl
def TAB_36.T17 : Bool × List (List Nat × List Nat) := (true, [([], []), ([], []), ([], []), ([1, 2], [1, 2]), ([], []), ([], []), ([0, 3, 4, 5], [0, 3, 4, 5])])
def TAB_36.B17 : List Nat := [0, 0, 0, 6, 0, 0, 63]
theorem TAB_36.tab17 : rtab .any (opsOf Tryd.f36 17) = TAB_36.T17 := by kernel_rfl
theorem TAB_36.bits17 : waitsOk TAB_36.T17.2 TAB_36.B17 = true := by kernel_rfl
def partsF (G : Int) (fs : List S46) (R V n : Int) (x : S50) (j : Nat) : Int := ((partsOf x.f0.toNat).take j).foldl (fun e pk => seqE e (partE G fs R V n x pk)) 0
theorem partsF_succ {G : Int} {fs : List S46} {R V n : Int} {x : S50} {j : Nat} {pk : PK} (h : (partsOf x.f0.toNat)[j]? = some pk) : partsF G fs R V n x (j + 1) = seqE (partsF G fs R V n x j) (partE G fs R V n x pk) := by
 have hj : j < (partsOf x.f0.toNat).length := by
  rcases Nat.lt_or_ge j (partsOf x.f0.toNat).length with g | g
  ·exact g
  ·rw [List.getElem?_eq_none g] at h; cases h
 rw [List.getElem?_eq_getElem hj] at h
 injection h with h
 unfold partsF
 rw [List.take_succ_eq_append_getElem hj, List.foldl_append, h]
 rfl
theorem partsF_iter (G : Int) (fs : List S46) (f : S46) (x : S50) : ∀ j, j ≤ (partsOf x.f0.toNat).length → iter (partS G fs f x) j 0 = (partsF G fs f.f1 f.f2 f.f3.length x j, 0)
 | 0, _ => rfl
 | j + 1, h => by
  have ih := partsF_iter G fs f x j (by omega)
  have hk : (partsOf x.f0.toNat)[j]? = some ((partsOf x.f0.toNat)[j]'(by omega)) := List.getElem?_eq_getElem (by omega)
  rw [partsF_succ hk]
  show (if (iter (partS G fs f x) j 0).1 = 0 then partS G fs f x j (iter (partS G fs f x) j 0).2 else iter (partS G fs f x) j 0) = _
  rw [ih]
  by_cases e : partsF G fs f.f1 f.f2 f.f3.length x j = 0
  ·rw [if_pos e, e, seqE_zero]
   unfold partS
   rw [List.getD_eq_getElem?_getD, hk]
   rfl
  ·rw [if_neg e, seqE_ne e]
theorem seqE_left {a b : Int} (h : seqE a b = 0) : a = 0 ∧ b = 0 := by
 unfold seqE at h
 split at h
 ·rename_i e; exact ⟨e, h⟩
 ·rename_i e; exact absurd h e
def wantE (fs : List S46) (R : Int) (x : S50) : PK → Int
 | .args => (fs.getD x.f4.toNat z46).f0
 | .rets => (fs.getD x.f4.toNat z46).f1
 | _ => R
theorem want_w {Wz : World} {A : Option Addr} {fs : List S46} {R : Int} {x : S50} {pk : PK} (hH : HeadsC Wz A fs) (hm : mayAsk fs x pk) (hp : pk = .args ∨ pk = .rets ∨ pk = .vals) {p : Int} (hpp : p = ((chOf pk : Nat) : Int)) : WantW Wz A fs.length p R x.f4 (wantE fs R x pk) := by
 subst hpp
 rcases hp with rfl | rfl | rfl
 ·have hm : 0 ≤ x.f4 ∧ x.f4 < fs.length := hm
  obtain ⟨ad, h1, h2, h3⟩ := callee_heads hH hm.1 hm.2
  exact .inl ⟨rfl, x.f4.toNat, ad, by omega, by omega, h1, h2⟩
 ·have hm : 0 ≤ x.f4 ∧ x.f4 < fs.length := hm
  obtain ⟨ad, h1, h2, h3⟩ := callee_heads hH hm.1 hm.2
  exact .inr (.inl ⟨rfl, x.f4.toNat, ad, by omega, by omega, h1, h3⟩)
 ·exact .inr (.inr ⟨rfl, rfl⟩)
section
variable {Wz w0 w w' : World} {g : Nat} {G : Int} {A : Option Addr} {c : Nat} {locs err : Int} {fs : List S46}
set_option maxHeartbeats 32000000 in
set_option maxRecDepth 100000 in
theorem rinstr_any (f : S46) (A3 : Option Addr) (c3 : Nat) (x : S50) (A5 : Option Addr) (c5 : Nat) (A6 : Option Addr) (c6 : Nat) (last : Bool) (h : Wk Wz w0 w g G A fs.length c locs err) (hl0 : 0 ≤ locs) (hl1 : locs < 1048576)
  (hH : HeadsC Wz A fs) (hm : fs.length ≤ 9223372036854775807) (h5 : (Kd.int .i64).C Wz A5 x.f5.length x.f5) (h6 : (Kd.int .i64).C Wz A6 x.f6.length x.f6) :
  Calls Tryd.prog 36 #[.pointer (some ⟨g, 0, none⟩), .agg #[.int .i64 f.f0, .int .i64 f.f1, .int .i64 f.f2, .slice A3 f.f3.length c3], .agg #[.int .i64 x.f0, .int .i64 x.f1, .int .i64 x.f2, .int .i64 x.f3, .int .i64 x.f4, .slice A5 x.f5.length c5, .slice A6 x.f6.length c6], .bool last] w fun r w' =>
   r = .returned (.tuple #[]) ∧ Wk Wz w0 w' g G A fs.length c (locs + newL x) (seqE (seqE err (opE locs x last)) (partsF G fs f.f1 f.f2 f.f3.length x (partsOf x.f0.toNat).length)) := by
 have HH := Az.mk h
 have HB := Az.mk (Below.refl w.heap.size w)
 have HGl : Az (g < w.heap.size) := ⟨blk_lt HH.out.blk⟩
 have Hm := Az.mk hm
 have HHd := Az.mk hH
 have H5 := Az.mk h5
 have H6 := Az.mk h6
 have HL := Az.mk (And.intro hl0 hl1)
 have HOp := Az.mk (op_seq locs x last err hl1)
 obtain ⟨s, hs⟩ : ∃ s, s = prS x.f0 := ⟨_, rfl⟩
 have HS := Az.mk hs
 have HSz : Az (s.size = (partsOf x.f0.toNat).length) := ⟨by rw [hs]; unfold prS; show ((partsOf x.f0.toNat).map _).toArray.size = _; simp⟩
 have HPa := Az.mk (parts_any x.f0)
 rw [← hs] at HPa
 have HMa : Az (∀ (j : Nat) (pk : PK), (partsOf x.f0.toNat)[j]? = some pk → (iter (partS G fs f x) j 0).1 = 0 → mayAsk fs x pk) := ⟨fun j pk h1 h2 => may_ask j pk h1 h2⟩
 have HIt := Az.mk (partsF_iter G fs f x)
 have hnp : (partsOf x.f0.toNat).length ≤ 3 := partsOf_le _
 obtain ⟨e0, he0⟩ : ∃ e0, e0 = seqE err (opE locs x last) := ⟨_, rfl⟩
 rw [← he0] at HOp ⊢
 obtain ⟨np, hnp2⟩ : ∃ np, np = (partsOf x.f0.toNat).length := ⟨_, rfl⟩
 have HNp := Az.mk hnp2
 rw [← hnp2] at hnp HSz ⊢
 clear h hm hH h5 h6 hl0 hl1 hs he0 hnp2
 go_enter Tryd.func36, Tryd.ntmps36
 go_wp2_with (first | ((with_reducible refine gate_dst (N := 5) rfl ?_); refine box_event ?hg (N := 5) ?hd (cs := #[.int .i64 f.f0, .int .i64 f.f1, .int .i64 f.f2, .slice A3 f.f3.length c3]) (t := 46) ?hr ?_; (case hd => rfl); (case hg => rfl); (case hr => first | (go_simp; done) | (go_simp; rfl)); intro g5 hg w5 hbox hb; have G5 : Az (w.heap.size ≤ g5) := ⟨by have := HB.out.size; omega⟩; replace HB := Az.mk (HB.out.trans (hb.mono HB.out.size)); replace HH := Az.mk (HH.out.below hb); have BK5 := Az.mk hbox; clear hg hbox hb; have NE5 : Az (g5 ≠ g) := ⟨by have := G5.out; have := HGl.out; omega⟩) | ((with_reducible refine gate_dst (N := 6) rfl ?_); refine box_event ?hg (N := 6) ?hd (cs := #[.int .i64 x.f0, .int .i64 x.f1, .int .i64 x.f2, .int .i64 x.f3, .int .i64 x.f4, .slice A5 x.f5.length c5, .slice A6 x.f6.length c6]) (t := 50) ?hr ?_; (case hd => rfl); (case hg => rfl); (case hr => first | (go_simp; done) | (go_simp; rfl)); intro g6 hg w6 hbox hb; have G6 : Az (w.heap.size ≤ g6) := ⟨by have := HB.out.size; omega⟩; replace HB := Az.mk (HB.out.trans (hb.mono HB.out.size)); replace HH := Az.mk (HH.out.below hb); replace BK5 := Az.mk (kZ BK5.out hb); have BK6 := Az.mk hbox; clear hg hbox hb; have NE6 : Az (g6 ≠ g) := ⟨by have := G6.out; have := HGl.out; omega⟩; have y0 : World.cell? w6 ⟨g5, 0, none⟩ = some (.int .i64 f.f0) := (bZ BK5.out 0).trans rfl; have y1 : World.cell? w6 ⟨g5, 1, none⟩ = some (.int .i64 f.f1) := (bZ BK5.out 1).trans rfl; have y2 : World.cell? w6 ⟨g5, 2, none⟩ = some (.int .i64 f.f2) := (bZ BK5.out 2).trans rfl; have y3 : World.cell? w6 ⟨g5, 3, none⟩ = some (.slice A3 f.f3.length c3) := (bZ BK5.out 3).trans rfl; have z0 : World.cell? w6 ⟨g6, 0, none⟩ = some (.int .i64 x.f0) := (bZ BK6.out 0).trans rfl; have z1 : World.cell? w6 ⟨g6, 1, none⟩ = some (.int .i64 x.f1) := (bZ BK6.out 1).trans rfl; have z2 : World.cell? w6 ⟨g6, 2, none⟩ = some (.int .i64 x.f2) := (bZ BK6.out 2).trans rfl; have z3 : World.cell? w6 ⟨g6, 3, none⟩ = some (.int .i64 x.f3) := (bZ BK6.out 3).trans rfl; have z4 : World.cell? w6 ⟨g6, 4, none⟩ = some (.int .i64 x.f4) := (bZ BK6.out 4).trans rfl; have z5 : World.cell? w6 ⟨g6, 5, none⟩ = some (.slice A5 x.f5.length c5) := (bZ BK6.out 5).trans rfl; have z6 : World.cell? w6 ⟨g6, 6, none⟩ = some (.slice A6 x.f6.length c6) := (bZ BK6.out 6).trans rfl))
 refine (rop_any x A5 c5 A6 c6 last HH.out.at_ HL.out.1 (by have := HL.out; omega)).mono ?_
 rintro e wk1 ⟨rfl, hW⟩
 clear y0 y1 y2 y3 z0 z1 z2 z3 z4 z5 z6
 replace BK5 := Az.mk (hW.kp.blk BK5.out NE5.out (by simp))
 replace BK6 := Az.mk (hW.kp.blk BK6.out NE6.out (by simp))
 replace HH := Az.mk (HH.out.trans hW)
 clear hW
 have y0 : World.cell? wk1 ⟨g5, 0, none⟩ = some (.int .i64 f.f0) := (bZ BK5.out 0).trans rfl
 have y1 : World.cell? wk1 ⟨g5, 1, none⟩ = some (.int .i64 f.f1) := (bZ BK5.out 1).trans rfl
 have y2 : World.cell? wk1 ⟨g5, 2, none⟩ = some (.int .i64 f.f2) := (bZ BK5.out 2).trans rfl
 have y3 : World.cell? wk1 ⟨g5, 3, none⟩ = some (.slice A3 f.f3.length c3) := (bZ BK5.out 3).trans rfl
 have z0 : World.cell? wk1 ⟨g6, 0, none⟩ = some (.int .i64 x.f0) := (bZ BK6.out 0).trans rfl
 have z1 : World.cell? wk1 ⟨g6, 1, none⟩ = some (.int .i64 x.f1) := (bZ BK6.out 1).trans rfl
 have z2 : World.cell? wk1 ⟨g6, 2, none⟩ = some (.int .i64 x.f2) := (bZ BK6.out 2).trans rfl
 have z3 : World.cell? wk1 ⟨g6, 3, none⟩ = some (.int .i64 x.f3) := (bZ BK6.out 3).trans rfl
 have z4 : World.cell? wk1 ⟨g6, 4, none⟩ = some (.int .i64 x.f4) := (bZ BK6.out 4).trans rfl
 have z5 : World.cell? wk1 ⟨g6, 5, none⟩ = some (.slice A5 x.f5.length c5) := (bZ BK6.out 5).trans rfl
 have z6 : World.cell? wk1 ⟨g6, 6, none⟩ = some (.slice A6 x.f6.length c6) := (bZ BK6.out 6).trans rfl
 rw [HOp.out] at HH
 go_wp2_with fail
 refine (HPa.out _).mono ?_
 rintro e wp1 ⟨rfl, hb⟩
 clear y0 y1 y2 y3 z0 z1 z2 z3 z4 z5 z6
 replace BK5 := Az.mk (kZ BK5.out hb)
 replace BK6 := Az.mk (kZ BK6.out hb)
 replace HH := Az.mk (HH.out.below hb)
 clear hb
 have hsz : (s.size : Int) = (np : Int) := by rw [HSz.out]
 have HHs : Az (Wk Wz w0 wp1 g G A fs.length c (locs + newL x) (seqE e0 (partsF G fs f.f1 f.f2 f.f3.length x 0))) := ⟨by rw [show partsF G fs f.f1 f.f2 f.f3.length x 0 = 0 from rfl, seqE_right]; exact HH.out⟩
 go_wp2_with fail
 go_loopw [9] (fun v9 w' => ∃ q : Nat, q ≤ np ∧ v9 = .int .i64 (q : Int) ∧ Az (Wk Wz w0 w' g G A fs.length c (locs + newL x) (seqE e0 (partsF G fs f.f1 f.f2 f.f3.length x q))) ∧ Az (w'.heap[g5]? = some (.cells #[.int .i64 f.f0, .int .i64 f.f1, .int .i64 f.f2, .slice A3 f.f3.length c3] 46 (0, 0))) ∧ Az (w'.heap[g6]? = some (.cells #[.int .i64 x.f0, .int .i64 x.f1, .int .i64 x.f2, .int .i64 x.f3, .int .i64 x.f4, .slice A5 x.f5.length c5, .slice A6 x.f6.length c6] 50 (0, 0)))) (fun i _ => np - (intOf i).toNat)
 case atStart => exact ⟨0, Nat.zero_le _, rfl, HHs, BK5, BK6⟩
 case round =>
  clear HH HHs BK5 BK6
  obtain ⟨q, hq, rfl, HH, BK5, BK6⟩ := hrel
  by_cases hlt : q < np
  ·have q0 : (0 : Int) ≤ (q : Int) := Int.natCast_nonneg q
   have q1 : (q : Int) < (np : Int) := Int.ofNat_lt.2 hlt
   have qs : (q : Int) < (s.size : Int) := by rw [hsz]; exact q1
   have hwp : wrap64 ((q : Int) + 1) = (q : Int) + 1 := wrap_in (by omega) (by omega)
   have hql : q < (partsOf x.f0.toNat).length := by rw [← HNp.out]; exact hlt
   have hb0 : bt s (q : Int) = ((chOf (partsOf x.f0.toNat)[q] : Nat) : Int) := by rw [HS.out]; exact bt_map _ q hql
   obtain ⟨pk, hpk⟩ : ∃ pk, pk = (partsOf x.f0.toNat)[q] := ⟨_, rfl⟩
   have hpk2 : (partsOf x.f0.toNat)[q]? = some pk := by rw [hpk]; exact List.getElem?_eq_getElem hql
   rw [← hpk] at hb0
   have HStep := Az.mk (partsF_succ (G := G) (fs := fs) (R := f.f1) (V := f.f2) (n := f.f3.length) hpk2)
   have HMay : Az (seqE e0 (partsF G fs f.f1 f.f2 f.f3.length x q) = 0 → mayAsk fs x pk) := ⟨fun h => HMa.out q pk hpk2 (by rw [HIt.out q (by omega)]; exact (seqE_left h).2)⟩
   have hx7 : ∀ h : q < s.size, ((s[q]'h).toNat : Int) = ((chOf pk : Nat) : Int) := fun h => (bt_at s (q : Int) h).trans hb0
   clear hpk hpk2 hb0 hql hq
   have y0 : World.cell? _ ⟨g5, 0, none⟩ = some (.int .i64 f.f0) := (bZ BK5.out 0).trans rfl
   have y1 : World.cell? _ ⟨g5, 1, none⟩ = some (.int .i64 f.f1) := (bZ BK5.out 1).trans rfl
   have y2 : World.cell? _ ⟨g5, 2, none⟩ = some (.int .i64 f.f2) := (bZ BK5.out 2).trans rfl
   have y3 : World.cell? _ ⟨g5, 3, none⟩ = some (.slice A3 f.f3.length c3) := (bZ BK5.out 3).trans rfl
   have z0 : World.cell? _ ⟨g6, 0, none⟩ = some (.int .i64 x.f0) := (bZ BK6.out 0).trans rfl
   have z1 : World.cell? _ ⟨g6, 1, none⟩ = some (.int .i64 x.f1) := (bZ BK6.out 1).trans rfl
   have z2 : World.cell? _ ⟨g6, 2, none⟩ = some (.int .i64 x.f2) := (bZ BK6.out 2).trans rfl
   have z3 : World.cell? _ ⟨g6, 3, none⟩ = some (.int .i64 x.f3) := (bZ BK6.out 3).trans rfl
   have z4 : World.cell? _ ⟨g6, 4, none⟩ = some (.int .i64 x.f4) := (bZ BK6.out 4).trans rfl
   have z5 : World.cell? _ ⟨g6, 5, none⟩ = some (.slice A5 x.f5.length c5) := (bZ BK6.out 5).trans rfl
   have z6 : World.cell? _ ⟨g6, 6, none⟩ = some (.slice A6 x.f6.length c6) := (bZ BK6.out 6).trans rfl
   obtain ⟨ee, hee⟩ : ∃ ee, ee = seqE e0 (partsF G fs f.f1 f.f2 f.f3.length x q) := ⟨_, rfl⟩
   have HEe := Az.mk hee
   rw [← hee] at HH HMay
   clear hee
   have HNx : Az (∀ w', Wk Wz w0 w' g G A fs.length c (locs + newL x) (seqE ee (partE G fs f.f1 f.f2 f.f3.length x pk)) → Wk Wz w0 w' g G A fs.length c (locs + newL x) (seqE e0 (partsF G fs f.f1 f.f2 f.f3.length x (q + 1)))) := ⟨fun w' h => by rw [HStep.out, ← seqE_assoc, ← HEe.out]; exact h⟩
   clear HStep
   cases pk
   case R =>
    have hx8 : ∀ h : q < s.size, ((s[q]'h).toNat : Int) = 82 := hx7
    clear hx7
    go_wp2_with fail
    refine (wvar_any f.f0 f.f1 f.f2 A3 f.f3.length c3 x.f1 HH.out.at_).mono ?_
    rintro e wv ⟨rfl, hW⟩
    have HHv : Az (Wk Wz w0 wv g G A fs.length c (locs + newL x) (seqE ee (partE G fs f.f1 f.f2 f.f3.length x .R))) := ⟨by have h := HH.out.trans hW; rw [var_seq] at h; exact h⟩
    have B5v := Az.mk (hW.kp.blk BK5.out NE5.out (by simp))
    have B6v := Az.mk (hW.kp.blk BK6.out NE6.out (by simp))
    clear hW y0 y1 y2 y3 z0 z1 z2 z3 z4 z5 z6
    go_wp2_with fail
    go_round
    case rel => exact ⟨q + 1, by omega, by go_num, ⟨HNx.out _ HHv.out⟩, B5v, B6v⟩
    case measure => simp [intOf]; omega
   case S =>
    have hx8 : ∀ h : q < s.size, ((s[q]'h).toNat : Int) = 83 := hx7
    clear hx7
    go_wp2_with fail
    refine (wvar_any f.f0 f.f1 f.f2 A3 f.f3.length c3 x.f2 HH.out.at_).mono ?_
    rintro e wv ⟨rfl, hW⟩
    have HHv : Az (Wk Wz w0 wv g G A fs.length c (locs + newL x) (seqE ee (partE G fs f.f1 f.f2 f.f3.length x .S))) := ⟨by have h := HH.out.trans hW; rw [var_seq] at h; exact h⟩
    have B5v := Az.mk (hW.kp.blk BK5.out NE5.out (by simp))
    have B6v := Az.mk (hW.kp.blk BK6.out NE6.out (by simp))
    clear hW y0 y1 y2 y3 z0 z1 z2 z3 z4 z5 z6
    go_wp2_with fail
    go_round
    case rel => exact ⟨q + 1, by omega, by go_num, ⟨HNx.out _ HHv.out⟩, B5v, B6v⟩
    case measure => simp [intOf]; omega
   case T =>
    have hx8 : ∀ h : q < s.size, ((s[q]'h).toNat : Int) = 84 := hx7
    clear hx7
    go_wp2_with fail
    refine (wvar_any f.f0 f.f1 f.f2 A3 f.f3.length c3 x.f3 HH.out.at_).mono ?_
    rintro e wv ⟨rfl, hW⟩
    have HHv : Az (Wk Wz w0 wv g G A fs.length c (locs + newL x) (seqE ee (partE G fs f.f1 f.f2 f.f3.length x .T))) := ⟨by have h := HH.out.trans hW; rw [var_seq] at h; exact h⟩
    have B5v := Az.mk (hW.kp.blk BK5.out NE5.out (by simp))
    have B6v := Az.mk (hW.kp.blk BK6.out NE6.out (by simp))
    clear hW y0 y1 y2 y3 z0 z1 z2 z3 z4 z5 z6
    go_wp2_with fail
    go_round
    case rel => exact ⟨q + 1, by omega, by go_num, ⟨HNx.out _ HHv.out⟩, B5v, B6v⟩
    case measure => simp [intOf]; omega
   case int =>
    have hx8 : ∀ h : q < s.size, ((s[q]'h).toNat : Int) = 105 := hx7
    clear hx7
    go_wp2_with fail
    refine start_ (n := 10) (S := fun w' => w'.cell? ⟨g5, 3, none⟩ = some (.slice A3 f.f3.length c3) ∧ w'.cell? ⟨g6, 4, none⟩ = some (.int .i64 x.f4)) (ds := [9]) #[false, false, false, false, false, false, false, false, false, false] (by kernel_rfl) rfl rfl ⟨y3, z4⟩ (fun hHeld => ?_)
    refine with_tabW TAB_36.tab7 TAB_36.bits7 (fun HT_ HW_ => ?_)
    refine pq 0 (some 26) HT_ rfl rfl (fun _ _ _ h => h) ?_
    refine pq 1 (some 27) HT_ rfl rfl (fun _ _ _ h => h) ?_
    refine pq 2 (some 28) HT_ rfl rfl (fun _ _ _ h => h) ?_
    refine pq 4 (some 30) HT_ rfl rfl (fun _ _ _ h => h) ?_
    refine pq 6 (some 32) HT_ rfl rfl (fun _ _ _ h => h) ?_
    refine pt 3 (some 29) (v := ?_) (a' := ?_) rfl rfl (take_ofW HT_.out HW_.out (by kernel_rfl)) (fun _ _ _ h => h) (Or.inl ⟨by rfl, ?_⟩) hHeld ?_ ?_
    rotate_left; (rintro w' ⟨s0, s1⟩; go_simp; with_reducible rfl); rotate_left; (simp only [Act.put, pn, i64_w, i32_w]; rfl)
    refine pt 5 (some 31) (v := ?_) (a' := ?_) rfl rfl (take_ofW HT_.out HW_.out (by kernel_rfl)) (fun _ _ _ h => h) (Or.inl ⟨by rfl, ?_⟩) hHeld ?_ ?_
    rotate_left; (rintro w' ⟨s0, s1⟩; go_simp; with_reducible rfl); rotate_left; (simp only [Act.put, pn, i64_w, i32_w]; rfl)
    refine pt 7 (some 33) (v := ?_) (a' := ?_) rfl rfl (take_ofW HT_.out HW_.out (by kernel_rfl)) (fun _ _ _ h => h) (Or.inl ⟨by rfl, ?_⟩) hHeld ?_ ?_
    rotate_left; (rintro w' ⟨s0, s1⟩; go_simp; with_reducible rfl); rotate_left; (simp only [Act.put, pn, i64_w, i32_w]; rfl)
    refine pq 8 (some 34) HT_ rfl rfl (fun _ _ _ h => h) ?_
    refine last_ (i := 9) (N := some 35) #[true, true, true, true, true, true, true, true, true, true] rfl rfl (one_of HT_.out (by kernel_rfl)) (by decide) (fun K hK => ?_)
    refine goes_ Tryd.func66 (by kernel_rfl) rfl #[.pointer (some ⟨g, 0, none⟩), .int .u8 105, .int .i64 x.f4, .int .i64 (f.f3.length : Int)] (by rfl) rfl rfl (by simp only [List.map_toArray, List.map_cons, List.map_nil]; rfl) ?_
    with_reducible refine (wnum_any 105 x.f4 (f.f3.length : Int) HH.out.drew.at_).mono ?_
    rintro e_ wv ⟨rfl, hW⟩
    refine ⟨_, rfl, ?_⟩
    have HHv : Az (Wk Wz w0 wv g G A fs.length c (locs + newL x) (seqE ee (partE G fs f.f1 f.f2 f.f3.length x .int))) := ⟨by rw [← num_seq G fs f.f1 f.f2 (f.f3.length : Int) ee x .int rfl]; exact HH.out.drew.trans hW⟩
    have B5v := Az.mk (hW.kp.blk (show (World.drew _).heap[g5]? = _ from BK5.out) NE5.out (by simp))
    have B6v := Az.mk (hW.kp.blk (show (World.drew _).heap[g6]? = _ from BK6.out) NE6.out (by simp))
    clear hW
    refine hK.out _ _ ?_
    clear hK K
    refine norm_ (a' := ?_) ?_ ?_
    rotate_left
    ·show Act.put _ (some 35) _ = _
     simp only [Act.put, pn, i64_w, i32_w]
     rfl
    refine done_ (done_of HT_.out (by kernel_rfl)) ?_
    clear HT_ HW_ hHeld y0 y1 y2 y3 z0 z1 z2 z3 z4 z5 z6
    go_wp2_with fail
    go_round
    case rel => exact ⟨q + 1, by omega, by go_num, ⟨HNx.out _ HHv.out⟩, B5v, B6v⟩
    case measure => simp [intOf]; omega
   case fields =>
    have hx8 : ∀ h : q < s.size, ((s[q]'h).toNat : Int) = 99 := hx7
    clear hx7
    go_wp2_with fail
    refine start_ (n := 10) (S := fun w' => w'.cell? ⟨g5, 3, none⟩ = some (.slice A3 f.f3.length c3) ∧ w'.cell? ⟨g6, 4, none⟩ = some (.int .i64 x.f4)) (ds := [9]) #[false, false, false, false, false, false, false, false, false, false] (by kernel_rfl) rfl rfl ⟨y3, z4⟩ (fun hHeld => ?_)
    refine with_tabW TAB_36.tab7 TAB_36.bits7 (fun HT_ HW_ => ?_)
    refine pq 0 (some 26) HT_ rfl rfl (fun _ _ _ h => h) ?_
    refine pq 1 (some 27) HT_ rfl rfl (fun _ _ _ h => h) ?_
    refine pq 2 (some 28) HT_ rfl rfl (fun _ _ _ h => h) ?_
    refine pq 4 (some 30) HT_ rfl rfl (fun _ _ _ h => h) ?_
    refine pq 6 (some 32) HT_ rfl rfl (fun _ _ _ h => h) ?_
    refine pt 3 (some 29) (v := ?_) (a' := ?_) rfl rfl (take_ofW HT_.out HW_.out (by kernel_rfl)) (fun _ _ _ h => h) (Or.inl ⟨by rfl, ?_⟩) hHeld ?_ ?_
    rotate_left; (rintro w' ⟨s0, s1⟩; go_simp; with_reducible rfl); rotate_left; (simp only [Act.put, pn, i64_w, i32_w]; rfl)
    refine pt 5 (some 31) (v := ?_) (a' := ?_) rfl rfl (take_ofW HT_.out HW_.out (by kernel_rfl)) (fun _ _ _ h => h) (Or.inl ⟨by rfl, ?_⟩) hHeld ?_ ?_
    rotate_left; (rintro w' ⟨s0, s1⟩; go_simp; with_reducible rfl); rotate_left; (simp only [Act.put, pn, i64_w, i32_w]; rfl)
    refine pt 7 (some 33) (v := ?_) (a' := ?_) rfl rfl (take_ofW HT_.out HW_.out (by kernel_rfl)) (fun _ _ _ h => h) (Or.inl ⟨by rfl, ?_⟩) hHeld ?_ ?_
    rotate_left; (rintro w' ⟨s0, s1⟩; go_simp; with_reducible rfl); rotate_left; (simp only [Act.put, pn, i64_w, i32_w]; rfl)
    refine pq 8 (some 34) HT_ rfl rfl (fun _ _ _ h => h) ?_
    refine last_ (i := 9) (N := some 35) #[true, true, true, true, true, true, true, true, true, true] rfl rfl (one_of HT_.out (by kernel_rfl)) (by decide) (fun K hK => ?_)
    refine goes_ Tryd.func66 (by kernel_rfl) rfl #[.pointer (some ⟨g, 0, none⟩), .int .u8 99, .int .i64 x.f4, .int .i64 (f.f3.length : Int)] (by rfl) rfl rfl (by simp only [List.map_toArray, List.map_cons, List.map_nil]; rfl) ?_
    with_reducible refine (wnum_any 99 x.f4 (f.f3.length : Int) HH.out.drew.at_).mono ?_
    rintro e_ wv ⟨rfl, hW⟩
    refine ⟨_, rfl, ?_⟩
    have HHv : Az (Wk Wz w0 wv g G A fs.length c (locs + newL x) (seqE ee (partE G fs f.f1 f.f2 f.f3.length x .fields))) := ⟨by rw [← num_seq G fs f.f1 f.f2 (f.f3.length : Int) ee x .fields rfl]; exact HH.out.drew.trans hW⟩
    have B5v := Az.mk (hW.kp.blk (show (World.drew _).heap[g5]? = _ from BK5.out) NE5.out (by simp))
    have B6v := Az.mk (hW.kp.blk (show (World.drew _).heap[g6]? = _ from BK6.out) NE6.out (by simp))
    clear hW
    refine hK.out _ _ ?_
    clear hK K
    refine norm_ (a' := ?_) ?_ ?_
    rotate_left
    ·show Act.put _ (some 35) _ = _
     simp only [Act.put, pn, i64_w, i32_w]
     rfl
    refine done_ (done_of HT_.out (by kernel_rfl)) ?_
    clear HT_ HW_ hHeld y0 y1 y2 y3 z0 z1 z2 z3 z4 z5 z6
    go_wp2_with fail
    go_round
    case rel => exact ⟨q + 1, by omega, by go_num, ⟨HNx.out _ HHv.out⟩, B5v, B6v⟩
    case measure => simp [intOf]; omega
   case field =>
    have hx8 : ∀ h : q < s.size, ((s[q]'h).toNat : Int) = 102 := hx7
    clear hx7
    go_wp2_with fail
    refine start_ (n := 10) (S := fun w' => w'.cell? ⟨g5, 3, none⟩ = some (.slice A3 f.f3.length c3) ∧ w'.cell? ⟨g6, 4, none⟩ = some (.int .i64 x.f4)) (ds := [9]) #[false, false, false, false, false, false, false, false, false, false] (by kernel_rfl) rfl rfl ⟨y3, z4⟩ (fun hHeld => ?_)
    refine with_tabW TAB_36.tab7 TAB_36.bits7 (fun HT_ HW_ => ?_)
    refine pq 0 (some 26) HT_ rfl rfl (fun _ _ _ h => h) ?_
    refine pq 1 (some 27) HT_ rfl rfl (fun _ _ _ h => h) ?_
    refine pq 2 (some 28) HT_ rfl rfl (fun _ _ _ h => h) ?_
    refine pq 4 (some 30) HT_ rfl rfl (fun _ _ _ h => h) ?_
    refine pq 6 (some 32) HT_ rfl rfl (fun _ _ _ h => h) ?_
    refine pt 3 (some 29) (v := ?_) (a' := ?_) rfl rfl (take_ofW HT_.out HW_.out (by kernel_rfl)) (fun _ _ _ h => h) (Or.inl ⟨by rfl, ?_⟩) hHeld ?_ ?_
    rotate_left; (rintro w' ⟨s0, s1⟩; go_simp; with_reducible rfl); rotate_left; (simp only [Act.put, pn, i64_w, i32_w]; rfl)
    refine pt 5 (some 31) (v := ?_) (a' := ?_) rfl rfl (take_ofW HT_.out HW_.out (by kernel_rfl)) (fun _ _ _ h => h) (Or.inl ⟨by rfl, ?_⟩) hHeld ?_ ?_
    rotate_left; (rintro w' ⟨s0, s1⟩; go_simp; with_reducible rfl); rotate_left; (simp only [Act.put, pn, i64_w, i32_w]; rfl)
    refine pt 7 (some 33) (v := ?_) (a' := ?_) rfl rfl (take_ofW HT_.out HW_.out (by kernel_rfl)) (fun _ _ _ h => h) (Or.inl ⟨by rfl, ?_⟩) hHeld ?_ ?_
    rotate_left; (rintro w' ⟨s0, s1⟩; go_simp; with_reducible rfl); rotate_left; (simp only [Act.put, pn, i64_w, i32_w]; rfl)
    refine pq 8 (some 34) HT_ rfl rfl (fun _ _ _ h => h) ?_
    refine last_ (i := 9) (N := some 35) #[true, true, true, true, true, true, true, true, true, true] rfl rfl (one_of HT_.out (by kernel_rfl)) (by decide) (fun K hK => ?_)
    refine goes_ Tryd.func66 (by kernel_rfl) rfl #[.pointer (some ⟨g, 0, none⟩), .int .u8 102, .int .i64 x.f4, .int .i64 (f.f3.length : Int)] (by rfl) rfl rfl (by simp only [List.map_toArray, List.map_cons, List.map_nil]; rfl) ?_
    with_reducible refine (wnum_any 102 x.f4 (f.f3.length : Int) HH.out.drew.at_).mono ?_
    rintro e_ wv ⟨rfl, hW⟩
    refine ⟨_, rfl, ?_⟩
    have HHv : Az (Wk Wz w0 wv g G A fs.length c (locs + newL x) (seqE ee (partE G fs f.f1 f.f2 f.f3.length x .field))) := ⟨by rw [← num_seq G fs f.f1 f.f2 (f.f3.length : Int) ee x .field rfl]; exact HH.out.drew.trans hW⟩
    have B5v := Az.mk (hW.kp.blk (show (World.drew _).heap[g5]? = _ from BK5.out) NE5.out (by simp))
    have B6v := Az.mk (hW.kp.blk (show (World.drew _).heap[g6]? = _ from BK6.out) NE6.out (by simp))
    clear hW
    refine hK.out _ _ ?_
    clear hK K
    refine norm_ (a' := ?_) ?_ ?_
    rotate_left
    ·show Act.put _ (some 35) _ = _
     simp only [Act.put, pn, i64_w, i32_w]
     rfl
    refine done_ (done_of HT_.out (by kernel_rfl)) ?_
    clear HT_ HW_ hHeld y0 y1 y2 y3 z0 z1 z2 z3 z4 z5 z6
    go_wp2_with fail
    go_round
    case rel => exact ⟨q + 1, by omega, by go_num, ⟨HNx.out _ HHv.out⟩, B5v, B6v⟩
    case measure => simp [intOf]; omega
   case glob =>
    have hx8 : ∀ h : q < s.size, ((s[q]'h).toNat : Int) = 103 := hx7
    clear hx7
    go_wp2_with fail
    refine start_ (n := 10) (S := fun w' => w'.cell? ⟨g5, 3, none⟩ = some (.slice A3 f.f3.length c3) ∧ w'.cell? ⟨g6, 4, none⟩ = some (.int .i64 x.f4)) (ds := [9]) #[false, false, false, false, false, false, false, false, false, false] (by kernel_rfl) rfl rfl ⟨y3, z4⟩ (fun hHeld => ?_)
    refine with_tabW TAB_36.tab7 TAB_36.bits7 (fun HT_ HW_ => ?_)
    refine pq 0 (some 26) HT_ rfl rfl (fun _ _ _ h => h) ?_
    refine pq 1 (some 27) HT_ rfl rfl (fun _ _ _ h => h) ?_
    refine pq 2 (some 28) HT_ rfl rfl (fun _ _ _ h => h) ?_
    refine pq 4 (some 30) HT_ rfl rfl (fun _ _ _ h => h) ?_
    refine pq 6 (some 32) HT_ rfl rfl (fun _ _ _ h => h) ?_
    refine pt 3 (some 29) (v := ?_) (a' := ?_) rfl rfl (take_ofW HT_.out HW_.out (by kernel_rfl)) (fun _ _ _ h => h) (Or.inl ⟨by rfl, ?_⟩) hHeld ?_ ?_
    rotate_left; (rintro w' ⟨s0, s1⟩; go_simp; with_reducible rfl); rotate_left; (simp only [Act.put, pn, i64_w, i32_w]; rfl)
    refine pt 5 (some 31) (v := ?_) (a' := ?_) rfl rfl (take_ofW HT_.out HW_.out (by kernel_rfl)) (fun _ _ _ h => h) (Or.inl ⟨by rfl, ?_⟩) hHeld ?_ ?_
    rotate_left; (rintro w' ⟨s0, s1⟩; go_simp; with_reducible rfl); rotate_left; (simp only [Act.put, pn, i64_w, i32_w]; rfl)
    refine pt 7 (some 33) (v := ?_) (a' := ?_) rfl rfl (take_ofW HT_.out HW_.out (by kernel_rfl)) (fun _ _ _ h => h) (Or.inl ⟨by rfl, ?_⟩) hHeld ?_ ?_
    rotate_left; (rintro w' ⟨s0, s1⟩; go_simp; with_reducible rfl); rotate_left; (simp only [Act.put, pn, i64_w, i32_w]; rfl)
    refine pq 8 (some 34) HT_ rfl rfl (fun _ _ _ h => h) ?_
    refine last_ (i := 9) (N := some 35) #[true, true, true, true, true, true, true, true, true, true] rfl rfl (one_of HT_.out (by kernel_rfl)) (by decide) (fun K hK => ?_)
    refine goes_ Tryd.func66 (by kernel_rfl) rfl #[.pointer (some ⟨g, 0, none⟩), .int .u8 103, .int .i64 x.f4, .int .i64 (f.f3.length : Int)] (by rfl) rfl rfl (by simp only [List.map_toArray, List.map_cons, List.map_nil]; rfl) ?_
    with_reducible refine (wnum_any 103 x.f4 (f.f3.length : Int) HH.out.drew.at_).mono ?_
    rintro e_ wv ⟨rfl, hW⟩
    refine ⟨_, rfl, ?_⟩
    have HHv : Az (Wk Wz w0 wv g G A fs.length c (locs + newL x) (seqE ee (partE G fs f.f1 f.f2 f.f3.length x .glob))) := ⟨by rw [← num_seq G fs f.f1 f.f2 (f.f3.length : Int) ee x .glob rfl]; exact HH.out.drew.trans hW⟩
    have B5v := Az.mk (hW.kp.blk (show (World.drew _).heap[g5]? = _ from BK5.out) NE5.out (by simp))
    have B6v := Az.mk (hW.kp.blk (show (World.drew _).heap[g6]? = _ from BK6.out) NE6.out (by simp))
    clear hW
    refine hK.out _ _ ?_
    clear hK K
    refine norm_ (a' := ?_) ?_ ?_
    rotate_left
    ·show Act.put _ (some 35) _ = _
     simp only [Act.put, pn, i64_w, i32_w]
     rfl
    refine done_ (done_of HT_.out (by kernel_rfl)) ?_
    clear HT_ HW_ hHeld y0 y1 y2 y3 z0 z1 z2 z3 z4 z5 z6
    go_wp2_with fail
    go_round
    case rel => exact ⟨q + 1, by omega, by go_num, ⟨HNx.out _ HHv.out⟩, B5v, B6v⟩
    case measure => simp [intOf]; omega
   case func =>
    have hx8 : ∀ h : q < s.size, ((s[q]'h).toNat : Int) = 70 := hx7
    clear hx7
    go_wp2_with fail
    refine start_ (n := 10) (S := fun w' => w'.cell? ⟨g5, 3, none⟩ = some (.slice A3 f.f3.length c3) ∧ w'.cell? ⟨g6, 4, none⟩ = some (.int .i64 x.f4)) (ds := [9]) #[false, false, false, false, false, false, false, false, false, false] (by kernel_rfl) rfl rfl ⟨y3, z4⟩ (fun hHeld => ?_)
    refine with_tabW TAB_36.tab7 TAB_36.bits7 (fun HT_ HW_ => ?_)
    refine pq 0 (some 26) HT_ rfl rfl (fun _ _ _ h => h) ?_
    refine pq 1 (some 27) HT_ rfl rfl (fun _ _ _ h => h) ?_
    refine pq 2 (some 28) HT_ rfl rfl (fun _ _ _ h => h) ?_
    refine pq 4 (some 30) HT_ rfl rfl (fun _ _ _ h => h) ?_
    refine pq 6 (some 32) HT_ rfl rfl (fun _ _ _ h => h) ?_
    refine pt 3 (some 29) (v := ?_) (a' := ?_) rfl rfl (take_ofW HT_.out HW_.out (by kernel_rfl)) (fun _ _ _ h => h) (Or.inl ⟨by rfl, ?_⟩) hHeld ?_ ?_
    rotate_left; (rintro w' ⟨s0, s1⟩; go_simp; with_reducible rfl); rotate_left; (simp only [Act.put, pn, i64_w, i32_w]; rfl)
    refine pt 5 (some 31) (v := ?_) (a' := ?_) rfl rfl (take_ofW HT_.out HW_.out (by kernel_rfl)) (fun _ _ _ h => h) (Or.inl ⟨by rfl, ?_⟩) hHeld ?_ ?_
    rotate_left; (rintro w' ⟨s0, s1⟩; go_simp; with_reducible rfl); rotate_left; (simp only [Act.put, pn, i64_w, i32_w]; rfl)
    refine pt 7 (some 33) (v := ?_) (a' := ?_) rfl rfl (take_ofW HT_.out HW_.out (by kernel_rfl)) (fun _ _ _ h => h) (Or.inl ⟨by rfl, ?_⟩) hHeld ?_ ?_
    rotate_left; (rintro w' ⟨s0, s1⟩; go_simp; with_reducible rfl); rotate_left; (simp only [Act.put, pn, i64_w, i32_w]; rfl)
    refine pq 8 (some 34) HT_ rfl rfl (fun _ _ _ h => h) ?_
    refine last_ (i := 9) (N := some 35) #[true, true, true, true, true, true, true, true, true, true] rfl rfl (one_of HT_.out (by kernel_rfl)) (by decide) (fun K hK => ?_)
    refine goes_ Tryd.func66 (by kernel_rfl) rfl #[.pointer (some ⟨g, 0, none⟩), .int .u8 70, .int .i64 x.f4, .int .i64 (f.f3.length : Int)] (by rfl) rfl rfl (by simp only [List.map_toArray, List.map_cons, List.map_nil]; rfl) ?_
    with_reducible refine (wnum_any 70 x.f4 (f.f3.length : Int) HH.out.drew.at_).mono ?_
    rintro e_ wv ⟨rfl, hW⟩
    refine ⟨_, rfl, ?_⟩
    have HHv : Az (Wk Wz w0 wv g G A fs.length c (locs + newL x) (seqE ee (partE G fs f.f1 f.f2 f.f3.length x .func))) := ⟨by rw [← num_seq G fs f.f1 f.f2 (f.f3.length : Int) ee x .func rfl]; exact HH.out.drew.trans hW⟩
    have B5v := Az.mk (hW.kp.blk (show (World.drew _).heap[g5]? = _ from BK5.out) NE5.out (by simp))
    have B6v := Az.mk (hW.kp.blk (show (World.drew _).heap[g6]? = _ from BK6.out) NE6.out (by simp))
    clear hW
    refine hK.out _ _ ?_
    clear hK K
    refine norm_ (a' := ?_) ?_ ?_
    rotate_left
    ·show Act.put _ (some 35) _ = _
     simp only [Act.put, pn, i64_w, i32_w]
     rfl
    refine done_ (done_of HT_.out (by kernel_rfl)) ?_
    clear HT_ HW_ hHeld y0 y1 y2 y3 z0 z1 z2 z3 z4 z5 z6
    go_wp2_with fail
    go_round
    case rel => exact ⟨q + 1, by omega, by go_num, ⟨HNx.out _ HHv.out⟩, B5v, B6v⟩
    case measure => simp [intOf]; omega
   case jump =>
    have hx8 : ∀ h : q < s.size, ((s[q]'h).toNat : Int) = 74 := hx7
    clear hx7
    go_wp2_with fail
    refine start_ (n := 10) (S := fun w' => w'.cell? ⟨g5, 3, none⟩ = some (.slice A3 f.f3.length c3) ∧ w'.cell? ⟨g6, 4, none⟩ = some (.int .i64 x.f4)) (ds := [9]) #[false, false, false, false, false, false, false, false, false, false] (by kernel_rfl) rfl rfl ⟨y3, z4⟩ (fun hHeld => ?_)
    refine with_tabW TAB_36.tab7 TAB_36.bits7 (fun HT_ HW_ => ?_)
    refine pq 0 (some 26) HT_ rfl rfl (fun _ _ _ h => h) ?_
    refine pq 1 (some 27) HT_ rfl rfl (fun _ _ _ h => h) ?_
    refine pq 2 (some 28) HT_ rfl rfl (fun _ _ _ h => h) ?_
    refine pq 4 (some 30) HT_ rfl rfl (fun _ _ _ h => h) ?_
    refine pq 6 (some 32) HT_ rfl rfl (fun _ _ _ h => h) ?_
    refine pt 3 (some 29) (v := ?_) (a' := ?_) rfl rfl (take_ofW HT_.out HW_.out (by kernel_rfl)) (fun _ _ _ h => h) (Or.inl ⟨by rfl, ?_⟩) hHeld ?_ ?_
    rotate_left; (rintro w' ⟨s0, s1⟩; go_simp; with_reducible rfl); rotate_left; (simp only [Act.put, pn, i64_w, i32_w]; rfl)
    refine pt 5 (some 31) (v := ?_) (a' := ?_) rfl rfl (take_ofW HT_.out HW_.out (by kernel_rfl)) (fun _ _ _ h => h) (Or.inl ⟨by rfl, ?_⟩) hHeld ?_ ?_
    rotate_left; (rintro w' ⟨s0, s1⟩; go_simp; with_reducible rfl); rotate_left; (simp only [Act.put, pn, i64_w, i32_w]; rfl)
    refine pt 7 (some 33) (v := ?_) (a' := ?_) rfl rfl (take_ofW HT_.out HW_.out (by kernel_rfl)) (fun _ _ _ h => h) (Or.inl ⟨by rfl, ?_⟩) hHeld ?_ ?_
    rotate_left; (rintro w' ⟨s0, s1⟩; go_simp; with_reducible rfl); rotate_left; (simp only [Act.put, pn, i64_w, i32_w]; rfl)
    refine pq 8 (some 34) HT_ rfl rfl (fun _ _ _ h => h) ?_
    refine last_ (i := 9) (N := some 35) #[true, true, true, true, true, true, true, true, true, true] rfl rfl (one_of HT_.out (by kernel_rfl)) (by decide) (fun K hK => ?_)
    refine goes_ Tryd.func66 (by kernel_rfl) rfl #[.pointer (some ⟨g, 0, none⟩), .int .u8 74, .int .i64 x.f4, .int .i64 (f.f3.length : Int)] (by rfl) rfl rfl (by simp only [List.map_toArray, List.map_cons, List.map_nil]; rfl) ?_
    with_reducible refine (wnum_any 74 x.f4 (f.f3.length : Int) HH.out.drew.at_).mono ?_
    rintro e_ wv ⟨rfl, hW⟩
    refine ⟨_, rfl, ?_⟩
    have HHv : Az (Wk Wz w0 wv g G A fs.length c (locs + newL x) (seqE ee (partE G fs f.f1 f.f2 f.f3.length x .jump))) := ⟨by rw [← num_seq G fs f.f1 f.f2 (f.f3.length : Int) ee x .jump rfl]; exact HH.out.drew.trans hW⟩
    have B5v := Az.mk (hW.kp.blk (show (World.drew _).heap[g5]? = _ from BK5.out) NE5.out (by simp))
    have B6v := Az.mk (hW.kp.blk (show (World.drew _).heap[g6]? = _ from BK6.out) NE6.out (by simp))
    clear hW
    refine hK.out _ _ ?_
    clear hK K
    refine norm_ (a' := ?_) ?_ ?_
    rotate_left
    ·show Act.put _ (some 35) _ = _
     simp only [Act.put, pn, i64_w, i32_w]
     rfl
    refine done_ (done_of HT_.out (by kernel_rfl)) ?_
    clear HT_ HW_ hHeld y0 y1 y2 y3 z0 z1 z2 z3 z4 z5 z6
    go_wp2_with fail
    go_round
    case rel => exact ⟨q + 1, by omega, by go_num, ⟨HNx.out _ HHv.out⟩, B5v, B6v⟩
    case measure => simp [intOf]; omega
   case args =>
    have hx8 : ∀ h : q < s.size, ((s[q]'h).toNat : Int) = 65 := hx7
    clear hx7
    go_wp2_with fail
    refine start_ (n := 7) (S := fun w' => w'.cell? ⟨g5, 0, none⟩ = some (.int .i64 f.f0) ∧ w'.cell? ⟨g5, 1, none⟩ = some (.int .i64 f.f1) ∧ w'.cell? ⟨g5, 2, none⟩ = some (.int .i64 f.f2) ∧ w'.cell? ⟨g5, 3, none⟩ = some (.slice A3 f.f3.length c3) ∧ w'.cell? ⟨g6, 0, none⟩ = some (.int .i64 x.f0) ∧ w'.cell? ⟨g6, 1, none⟩ = some (.int .i64 x.f1) ∧ w'.cell? ⟨g6, 2, none⟩ = some (.int .i64 x.f2) ∧ w'.cell? ⟨g6, 3, none⟩ = some (.int .i64 x.f3) ∧ w'.cell? ⟨g6, 4, none⟩ = some (.int .i64 x.f4) ∧ w'.cell? ⟨g6, 5, none⟩ = some (.slice A5 x.f5.length c5) ∧ w'.cell? ⟨g6, 6, none⟩ = some (.slice A6 x.f6.length c6)) (ds := [6]) #[false, false, false, false, false, false, false] (by kernel_rfl) rfl rfl ⟨y0, y1, y2, y3, z0, z1, z2, z3, z4, z5, z6⟩ (fun hHeld => ?_)
    refine with_tabW TAB_36.tab17 TAB_36.bits17 (fun HT_ HW_ => ?_)
    refine pq 0 (some 61) HT_ rfl rfl (fun _ _ _ h => h) ?_
    refine pq 1 (some 62) HT_ rfl rfl (fun _ _ _ h => h) ?_
    refine pq 2 (some 63) HT_ rfl rfl (fun _ _ _ h => h) ?_
    refine pt 3 (some 64) (v := ?_) (a' := ?_) rfl rfl (take_ofW HT_.out HW_.out (by kernel_rfl)) (fun _ _ _ h => h) (Or.inl ⟨by rfl, ?_⟩) hHeld ?_ ?_
    rotate_left; (rintro w' ⟨s0, s1, s2, s3, s4, s5, s6, s7, s8, s9, s10⟩; go_simp; with_reducible rfl); rotate_left; (simp only [Act.put, pn, i64_w, i32_w]; rfl)
    refine pt 4 (some 65) (v := ?_) (a' := ?_) rfl rfl (take_ofW HT_.out HW_.out (by kernel_rfl)) (fun _ _ _ h => h) (Or.inl ⟨by rfl, ?_⟩) hHeld ?_ ?_
    rotate_left; (rintro w' ⟨s0, s1, s2, s3, s4, s5, s6, s7, s8, s9, s10⟩; go_simp; with_reducible rfl); rotate_left; (simp only [Act.put, pn, i64_w, i32_w]; rfl)
    refine pt 5 (some 66) (v := ?_) (a' := ?_) rfl rfl (take_ofW HT_.out HW_.out (by kernel_rfl)) (fun _ _ _ h => h) (Or.inl ⟨by rfl, ?_⟩) hHeld ?_ ?_
    rotate_left; (rintro w' ⟨s0, s1, s2, s3, s4, s5, s6, s7, s8, s9, s10⟩; go_simp; with_reducible rfl); rotate_left; (simp only [Act.put, pn, i64_w, i32_w]; rfl)
    refine last_ (i := 6) (N := some 67) #[true, true, true, true, true, true, true] rfl rfl (one_of HT_.out (by kernel_rfl)) (by decide) (fun K hK => ?_)
    refine goes_ Tryd.func65 (by kernel_rfl) rfl #[.pointer (some ⟨g, 0, none⟩), .int .u8 65, .agg #[.int .i64 f.f0, .int .i64 f.f1, .int .i64 f.f2, .slice A3 f.f3.length c3], .agg #[.int .i64 x.f0, .int .i64 x.f1, .int .i64 x.f2, .int .i64 x.f3, .int .i64 x.f4, .slice A5 x.f5.length c5, .slice A6 x.f6.length c6]] (by rfl) rfl rfl (by simp only [List.map_toArray, List.map_cons, List.map_nil]; rfl) ?_
    with_reducible refine (rlist_any 65 f.f0 f.f1 f.f2 A3 f.f3.length c3 x.f0 x.f1 x.f2 x.f3 x.f4 A5 x.f5.length c5 A6 x.f6.length c6 x.f5 x.f6 (wantE fs f.f1 x .args) HH.out.drew.at_ (by decide) (fun h => want_w HHd.out (HMay.out h) (by simp) (by decide)) Hm.out H5.out H6.out rfl rfl).mono ?_
    rintro e_ wv ⟨rfl, hW⟩
    refine ⟨_, rfl, ?_⟩
    have HHv : Az (Wk Wz w0 wv g G A fs.length c (locs + newL x) (seqE ee (partE G fs f.f1 f.f2 f.f3.length x .args))) := ⟨HH.out.drew.trans hW⟩
    have B5v := Az.mk (hW.kp.blk (show (World.drew _).heap[g5]? = _ from BK5.out) NE5.out (by simp))
    have B6v := Az.mk (hW.kp.blk (show (World.drew _).heap[g6]? = _ from BK6.out) NE6.out (by simp))
    clear hW
    refine hK.out _ _ ?_
    clear hK K
    refine norm_ (a' := ?_) ?_ ?_
    rotate_left
    ·show Act.put _ (some 67) _ = _
     simp only [Act.put, pn, i64_w, i32_w]
     rfl
    refine done_ (done_of HT_.out (by kernel_rfl)) ?_
    clear HT_ HW_ hHeld y0 y1 y2 y3 z0 z1 z2 z3 z4 z5 z6
    go_wp2_with fail
    go_round
    case rel => exact ⟨q + 1, by omega, by go_num, ⟨HNx.out _ HHv.out⟩, B5v, B6v⟩
    case measure => simp [intOf]; omega
   case rets =>
    have hx8 : ∀ h : q < s.size, ((s[q]'h).toNat : Int) = 66 := hx7
    clear hx7
    go_wp2_with fail
    refine start_ (n := 7) (S := fun w' => w'.cell? ⟨g5, 0, none⟩ = some (.int .i64 f.f0) ∧ w'.cell? ⟨g5, 1, none⟩ = some (.int .i64 f.f1) ∧ w'.cell? ⟨g5, 2, none⟩ = some (.int .i64 f.f2) ∧ w'.cell? ⟨g5, 3, none⟩ = some (.slice A3 f.f3.length c3) ∧ w'.cell? ⟨g6, 0, none⟩ = some (.int .i64 x.f0) ∧ w'.cell? ⟨g6, 1, none⟩ = some (.int .i64 x.f1) ∧ w'.cell? ⟨g6, 2, none⟩ = some (.int .i64 x.f2) ∧ w'.cell? ⟨g6, 3, none⟩ = some (.int .i64 x.f3) ∧ w'.cell? ⟨g6, 4, none⟩ = some (.int .i64 x.f4) ∧ w'.cell? ⟨g6, 5, none⟩ = some (.slice A5 x.f5.length c5) ∧ w'.cell? ⟨g6, 6, none⟩ = some (.slice A6 x.f6.length c6)) (ds := [6]) #[false, false, false, false, false, false, false] (by kernel_rfl) rfl rfl ⟨y0, y1, y2, y3, z0, z1, z2, z3, z4, z5, z6⟩ (fun hHeld => ?_)
    refine with_tabW TAB_36.tab17 TAB_36.bits17 (fun HT_ HW_ => ?_)
    refine pq 0 (some 61) HT_ rfl rfl (fun _ _ _ h => h) ?_
    refine pq 1 (some 62) HT_ rfl rfl (fun _ _ _ h => h) ?_
    refine pq 2 (some 63) HT_ rfl rfl (fun _ _ _ h => h) ?_
    refine pt 3 (some 64) (v := ?_) (a' := ?_) rfl rfl (take_ofW HT_.out HW_.out (by kernel_rfl)) (fun _ _ _ h => h) (Or.inl ⟨by rfl, ?_⟩) hHeld ?_ ?_
    rotate_left; (rintro w' ⟨s0, s1, s2, s3, s4, s5, s6, s7, s8, s9, s10⟩; go_simp; with_reducible rfl); rotate_left; (simp only [Act.put, pn, i64_w, i32_w]; rfl)
    refine pt 4 (some 65) (v := ?_) (a' := ?_) rfl rfl (take_ofW HT_.out HW_.out (by kernel_rfl)) (fun _ _ _ h => h) (Or.inl ⟨by rfl, ?_⟩) hHeld ?_ ?_
    rotate_left; (rintro w' ⟨s0, s1, s2, s3, s4, s5, s6, s7, s8, s9, s10⟩; go_simp; with_reducible rfl); rotate_left; (simp only [Act.put, pn, i64_w, i32_w]; rfl)
    refine pt 5 (some 66) (v := ?_) (a' := ?_) rfl rfl (take_ofW HT_.out HW_.out (by kernel_rfl)) (fun _ _ _ h => h) (Or.inl ⟨by rfl, ?_⟩) hHeld ?_ ?_
    rotate_left; (rintro w' ⟨s0, s1, s2, s3, s4, s5, s6, s7, s8, s9, s10⟩; go_simp; with_reducible rfl); rotate_left; (simp only [Act.put, pn, i64_w, i32_w]; rfl)
    refine last_ (i := 6) (N := some 67) #[true, true, true, true, true, true, true] rfl rfl (one_of HT_.out (by kernel_rfl)) (by decide) (fun K hK => ?_)
    refine goes_ Tryd.func65 (by kernel_rfl) rfl #[.pointer (some ⟨g, 0, none⟩), .int .u8 66, .agg #[.int .i64 f.f0, .int .i64 f.f1, .int .i64 f.f2, .slice A3 f.f3.length c3], .agg #[.int .i64 x.f0, .int .i64 x.f1, .int .i64 x.f2, .int .i64 x.f3, .int .i64 x.f4, .slice A5 x.f5.length c5, .slice A6 x.f6.length c6]] (by rfl) rfl rfl (by simp only [List.map_toArray, List.map_cons, List.map_nil]; rfl) ?_
    with_reducible refine (rlist_any 66 f.f0 f.f1 f.f2 A3 f.f3.length c3 x.f0 x.f1 x.f2 x.f3 x.f4 A5 x.f5.length c5 A6 x.f6.length c6 x.f5 x.f6 (wantE fs f.f1 x .rets) HH.out.drew.at_ (by decide) (fun h => want_w HHd.out (HMay.out h) (by simp) (by decide)) Hm.out H5.out H6.out rfl rfl).mono ?_
    rintro e_ wv ⟨rfl, hW⟩
    refine ⟨_, rfl, ?_⟩
    have HHv : Az (Wk Wz w0 wv g G A fs.length c (locs + newL x) (seqE ee (partE G fs f.f1 f.f2 f.f3.length x .rets))) := ⟨HH.out.drew.trans hW⟩
    have B5v := Az.mk (hW.kp.blk (show (World.drew _).heap[g5]? = _ from BK5.out) NE5.out (by simp))
    have B6v := Az.mk (hW.kp.blk (show (World.drew _).heap[g6]? = _ from BK6.out) NE6.out (by simp))
    clear hW
    refine hK.out _ _ ?_
    clear hK K
    refine norm_ (a' := ?_) ?_ ?_
    rotate_left
    ·show Act.put _ (some 67) _ = _
     simp only [Act.put, pn, i64_w, i32_w]
     rfl
    refine done_ (done_of HT_.out (by kernel_rfl)) ?_
    clear HT_ HW_ hHeld y0 y1 y2 y3 z0 z1 z2 z3 z4 z5 z6
    go_wp2_with fail
    go_round
    case rel => exact ⟨q + 1, by omega, by go_num, ⟨HNx.out _ HHv.out⟩, B5v, B6v⟩
    case measure => simp [intOf]; omega
   case vals =>
    have hx8 : ∀ h : q < s.size, ((s[q]'h).toNat : Int) = 86 := hx7
    clear hx7
    go_wp2_with fail
    refine start_ (n := 7) (S := fun w' => w'.cell? ⟨g5, 0, none⟩ = some (.int .i64 f.f0) ∧ w'.cell? ⟨g5, 1, none⟩ = some (.int .i64 f.f1) ∧ w'.cell? ⟨g5, 2, none⟩ = some (.int .i64 f.f2) ∧ w'.cell? ⟨g5, 3, none⟩ = some (.slice A3 f.f3.length c3) ∧ w'.cell? ⟨g6, 0, none⟩ = some (.int .i64 x.f0) ∧ w'.cell? ⟨g6, 1, none⟩ = some (.int .i64 x.f1) ∧ w'.cell? ⟨g6, 2, none⟩ = some (.int .i64 x.f2) ∧ w'.cell? ⟨g6, 3, none⟩ = some (.int .i64 x.f3) ∧ w'.cell? ⟨g6, 4, none⟩ = some (.int .i64 x.f4) ∧ w'.cell? ⟨g6, 5, none⟩ = some (.slice A5 x.f5.length c5) ∧ w'.cell? ⟨g6, 6, none⟩ = some (.slice A6 x.f6.length c6)) (ds := [6]) #[false, false, false, false, false, false, false] (by kernel_rfl) rfl rfl ⟨y0, y1, y2, y3, z0, z1, z2, z3, z4, z5, z6⟩ (fun hHeld => ?_)
    refine with_tabW TAB_36.tab17 TAB_36.bits17 (fun HT_ HW_ => ?_)
    refine pq 0 (some 61) HT_ rfl rfl (fun _ _ _ h => h) ?_
    refine pq 1 (some 62) HT_ rfl rfl (fun _ _ _ h => h) ?_
    refine pq 2 (some 63) HT_ rfl rfl (fun _ _ _ h => h) ?_
    refine pt 3 (some 64) (v := ?_) (a' := ?_) rfl rfl (take_ofW HT_.out HW_.out (by kernel_rfl)) (fun _ _ _ h => h) (Or.inl ⟨by rfl, ?_⟩) hHeld ?_ ?_
    rotate_left; (rintro w' ⟨s0, s1, s2, s3, s4, s5, s6, s7, s8, s9, s10⟩; go_simp; with_reducible rfl); rotate_left; (simp only [Act.put, pn, i64_w, i32_w]; rfl)
    refine pt 4 (some 65) (v := ?_) (a' := ?_) rfl rfl (take_ofW HT_.out HW_.out (by kernel_rfl)) (fun _ _ _ h => h) (Or.inl ⟨by rfl, ?_⟩) hHeld ?_ ?_
    rotate_left; (rintro w' ⟨s0, s1, s2, s3, s4, s5, s6, s7, s8, s9, s10⟩; go_simp; with_reducible rfl); rotate_left; (simp only [Act.put, pn, i64_w, i32_w]; rfl)
    refine pt 5 (some 66) (v := ?_) (a' := ?_) rfl rfl (take_ofW HT_.out HW_.out (by kernel_rfl)) (fun _ _ _ h => h) (Or.inl ⟨by rfl, ?_⟩) hHeld ?_ ?_
    rotate_left; (rintro w' ⟨s0, s1, s2, s3, s4, s5, s6, s7, s8, s9, s10⟩; go_simp; with_reducible rfl); rotate_left; (simp only [Act.put, pn, i64_w, i32_w]; rfl)
    refine last_ (i := 6) (N := some 67) #[true, true, true, true, true, true, true] rfl rfl (one_of HT_.out (by kernel_rfl)) (by decide) (fun K hK => ?_)
    refine goes_ Tryd.func65 (by kernel_rfl) rfl #[.pointer (some ⟨g, 0, none⟩), .int .u8 86, .agg #[.int .i64 f.f0, .int .i64 f.f1, .int .i64 f.f2, .slice A3 f.f3.length c3], .agg #[.int .i64 x.f0, .int .i64 x.f1, .int .i64 x.f2, .int .i64 x.f3, .int .i64 x.f4, .slice A5 x.f5.length c5, .slice A6 x.f6.length c6]] (by rfl) rfl rfl (by simp only [List.map_toArray, List.map_cons, List.map_nil]; rfl) ?_
    with_reducible refine (rlist_any 86 f.f0 f.f1 f.f2 A3 f.f3.length c3 x.f0 x.f1 x.f2 x.f3 x.f4 A5 x.f5.length c5 A6 x.f6.length c6 x.f5 x.f6 (wantE fs f.f1 x .vals) HH.out.drew.at_ (by decide) (fun h => want_w HHd.out (HMay.out h) (by simp) (by decide)) Hm.out H5.out H6.out rfl rfl).mono ?_
    rintro e_ wv ⟨rfl, hW⟩
    refine ⟨_, rfl, ?_⟩
    have HHv : Az (Wk Wz w0 wv g G A fs.length c (locs + newL x) (seqE ee (partE G fs f.f1 f.f2 f.f3.length x .vals))) := ⟨HH.out.drew.trans hW⟩
    have B5v := Az.mk (hW.kp.blk (show (World.drew _).heap[g5]? = _ from BK5.out) NE5.out (by simp))
    have B6v := Az.mk (hW.kp.blk (show (World.drew _).heap[g6]? = _ from BK6.out) NE6.out (by simp))
    clear hW
    refine hK.out _ _ ?_
    clear hK K
    refine norm_ (a' := ?_) ?_ ?_
    rotate_left
    ·show Act.put _ (some 67) _ = _
     simp only [Act.put, pn, i64_w, i32_w]
     rfl
    refine done_ (done_of HT_.out (by kernel_rfl)) ?_
    clear HT_ HW_ hHeld y0 y1 y2 y3 z0 z1 z2 z3 z4 z5 z6
    go_wp2_with fail
    go_round
    case rel => exact ⟨q + 1, by omega, by go_num, ⟨HNx.out _ HHv.out⟩, B5v, B6v⟩
    case measure => simp [intOf]; omega
  ·obtain rfl : np = q := by omega
   have y0 : World.cell? _ ⟨g5, 0, none⟩ = some (.int .i64 f.f0) := (bZ BK5.out 0).trans rfl
   have y1 : World.cell? _ ⟨g5, 1, none⟩ = some (.int .i64 f.f1) := (bZ BK5.out 1).trans rfl
   have y2 : World.cell? _ ⟨g5, 2, none⟩ = some (.int .i64 f.f2) := (bZ BK5.out 2).trans rfl
   have y3 : World.cell? _ ⟨g5, 3, none⟩ = some (.slice A3 f.f3.length c3) := (bZ BK5.out 3).trans rfl
   have z0 : World.cell? _ ⟨g6, 0, none⟩ = some (.int .i64 x.f0) := (bZ BK6.out 0).trans rfl
   have z1 : World.cell? _ ⟨g6, 1, none⟩ = some (.int .i64 x.f1) := (bZ BK6.out 1).trans rfl
   have z2 : World.cell? _ ⟨g6, 2, none⟩ = some (.int .i64 x.f2) := (bZ BK6.out 2).trans rfl
   have z3 : World.cell? _ ⟨g6, 3, none⟩ = some (.int .i64 x.f3) := (bZ BK6.out 3).trans rfl
   have z4 : World.cell? _ ⟨g6, 4, none⟩ = some (.int .i64 x.f4) := (bZ BK6.out 4).trans rfl
   have z5 : World.cell? _ ⟨g6, 5, none⟩ = some (.slice A5 x.f5.length c5) := (bZ BK6.out 5).trans rfl
   have z6 : World.cell? _ ⟨g6, 6, none⟩ = some (.slice A6 x.f6.length c6) := (bZ BK6.out 6).trans rfl
   go_wp2_with fail
   first | go_end0 | ((try simp only [Exit.inBlock, Exit.then]); refine bodyPost_ret (results_none rfl _ _ _) rfl ?_)
   exact ⟨rfl, HH.out⟩
end
section
variable {G : Int} {fs0 : List S46} {bs : List Int}
end
def TAB_16.T7 : Bool × List (List Nat × List Nat) := (true, [([], []), ([], []), ([1], [1]), ([], []), ([2, 3], [2, 3]), ([4], [4]), ([], []), ([6], [6]), ([], []), ([7, 8], [7, 8]), ([9], [9]), ([10], [10]), ([11], [11]), ([0, 5, 12], [0, 5, 12])])
def TAB_16.B7 : List Nat := [0, 0, 2, 0, 14, 30, 0, 64, 0, 448, 960, 1984, 4032, 8191]
theorem TAB_16.tab7 : rtab .any (opsOf Tryd.f16 7) = TAB_16.T7 := by kernel_rfl
theorem TAB_16.bits7 : waitsOk TAB_16.T7.2 TAB_16.B7 = true := by kernel_rfl
def TAB_16.T15 : Bool × List (List Nat × List Nat) := (true, [([], []), ([], []), ([], []), ([2], [2]), ([], []), ([3, 4], [3, 4]), ([5], [5]), ([], []), ([], []), ([8], [8]), ([9], [9]), ([10], [10]), ([7, 11], [7, 11]), ([0, 1, 6, 12], [0, 1, 6, 12])])
def TAB_16.B15 : List Nat := [0, 0, 0, 4, 0, 28, 60, 0, 0, 256, 768, 1792, 3968, 8191]
theorem TAB_16.tab15 : rtab .any (opsOf Tryd.f16 15) = TAB_16.T15 := by kernel_rfl
theorem TAB_16.bits15 : waitsOk TAB_16.T15.2 TAB_16.B15 = true := by kernel_rfl
theorem glob_must (G : Int) : mustE (decide (0 ≤ G) && decide (G ≤ 16)) 18 0 = globE G := by
 rw [mustE_seq, seqE_zero]
 unfold globE
 simp only [Bool.and_eq_true, decide_eq_true_eq]
theorem funcs_must (n err : Int) : mustE (decide (1 ≤ n) && decide (n ≤ 65535)) 20 err = seqE err (funcsE n) := by
 rw [mustE_seq]
 unfold funcsE
 simp only [Bool.and_eq_true, decide_eq_true_eq]
theorem firstE_seq (G : Int) (fs : List S46) : firstE G fs = seqE (seqE (seqE (globE G) (funcsE fs.length)) (iter (headS fs) fs.length 0).1) (iter (codeS G fs) fs.length (iter (headS fs) fs.length 0).2).1 := by
 unfold firstE
 by_cases h1 : globE G = 0
 ·rw [if_pos h1, h1, seqE_zero]
  by_cases h2 : funcsE fs.length = 0
  ·rw [if_pos h2, h2, seqE_zero]
   rfl
  ·rw [if_neg h2, seqE_ne h2, seqE_ne h2]
 ·rw [if_neg h1, seqE_ne h1, seqE_ne h1, seqE_ne h1]
def SInv (step : Nat → Int → Int × Int) (e2 l0 : Int) (q : Nat) (l e : Int) : Prop := e = seqE e2 (iter step q l0).1 ∧ (e = 0 → l = (iter step q l0).2 ∧ 0 ≤ l ∧ l < 1048576) ∧ (e2 ≠ 0 → q = 0)
theorem SInv.start {step : Nat → Int → Int × Int} {e2 l0 l : Int} (h : e2 = 0 → l = l0 ∧ 0 ≤ l ∧ l < 1048576) : SInv step e2 l0 0 l e2 :=
 ⟨(seqE_right e2).symm, h, fun _ => rfl⟩
theorem SInv.next {step : Nat → Int → Int × Int} {e2 l0 l l' e' : Int} {q : Nat} (h : SInv step e2 l0 q l 0) (h1 : (step q l).1 = e') (h2 : e' = 0 → l' = (step q l).2 ∧ 0 ≤ l' ∧ l' < 1048576) : SInv step e2 l0 (q + 1) l' e' := by
 obtain ⟨a, b, c⟩ := h
 obtain ⟨b1, _, _⟩ := b rfl
 obtain ⟨a1, a2⟩ := seqE_left a.symm
 have hi : iter step (q + 1) l0 = step q l := iter_next (Prod.ext a2 b1.symm)
 refine ⟨by rw [a1, seqE_zero, hi, h1], fun h => ?_, fun h => absurd a1 h⟩
 rw [hi]
 exact h2 h
theorem SInv.done {step : Nat → Int → Int × Int} {e2 l0 l e : Int} {q n : Nat} (h : SInv step e2 l0 q l e) (hq : q ≤ n) (hx : q = n ∨ e ≠ 0) : e = seqE e2 (iter step n l0).1 ∧ (e = 0 → l = (iter step n l0).2 ∧ 0 ≤ l ∧ l < 1048576) := by
 obtain ⟨a, b, c⟩ := h
 rcases hx with rfl | hx
 ·exact ⟨a, b⟩
 ·refine ⟨?_, fun h => absurd h hx⟩
  by_cases e0 : e2 = 0
  ·have a2 : e = (iter step q l0).1 := by rw [a, e0, seqE_zero]
   rw [e0, seqE_zero, iter_stop (by rw [← a2]; exact hx) n hq]
   exact a2
  ·rw [a, seqE_ne e0, seqE_ne e0]
theorem instrS_ref {G : Int} {fs : List S46} {f : S46} {x : S50} {k : Nat} {l : Int} (hx : f.f3.getD k z50 = x) : (instrS G fs f k l).1 = seqE (seqE 0 (opE l x (k + 1 == f.f3.length))) (partsF G fs f.f1 f.f2 f.f3.length x (partsOf x.f0.toNat).length) ∧ (instrS G fs f k l).2 = l + newL x := by
 unfold instrS partsE
 rw [hx, partsF_iter G fs f x _ (Nat.le_refl _), seqE_zero]
 exact ⟨rfl, rfl⟩
section
variable {P : Program} {ops : Array Oper} {Q : Exit → Act → World → Prop}
theorem merge5 {o1 o2 o3 o4 o5 : Oper} {rest : List Oper} {a : Act} {w : World} (v5 : Value)
  (hk : ∀ rest' : List Oper, (∀ x y z u, wpList P ops Q rest' (((((a.put o1.dst x).put o2.dst y).put o3.dst z).put o4.dst u).put o5.dst v5) w) → wpList P ops Q (o1 :: o2 :: o3 :: o4 :: o5 :: rest') a w)
  (h : ∀ x y z u, wpList P ops Q rest (((((a.put o1.dst x).put o2.dst y).put o3.dst z).put o4.dst u).put o5.dst v5) w) : wpList P ops Q (o1 :: o2 :: o3 :: o4 :: o5 :: rest) a w := hk rest h
theorem merge4w {o1 o2 o3 o4 : Oper} {rest : List Oper} {a : Act} {w : World} (v4 : Value)
  (hk : ∀ rest' : List Oper, (∀ x y z, wpList P ops Q rest' ((((a.put o1.dst x).put o2.dst y).put o3.dst z).put o4.dst v4) w) → wpList P ops Q (o1 :: o2 :: o3 :: o4 :: rest') a w)
  (h : ∀ x y z, wpList P ops Q rest ((((a.put o1.dst x).put o2.dst y).put o3.dst z).put o4.dst v4) w) : wpList P ops Q (o1 :: o2 :: o3 :: o4 :: rest) a w := hk rest h
end
set_option maxHeartbeats 32000000 in
set_option maxRecDepth 100000 in
theorem rcheck_any (G : Int) (A : Option Addr) (c : Nat) (fs : List S46) (w : World) (hF : k46.C w A fs.length fs) :
  Calls Tryd.prog 16 #[.agg #[.int .i64 G, .slice A fs.length c]] w fun e w' => e = .returned (.int .i64 (firstE G fs)) ∧ Below w.heap.size w w' := by
 have HF := Az.mk hF
 have HB := Az.mk (Below.refl w.heap.size w)
 have hmx : fs.length ≤ 9223372036854775807 := Kd.C_max hF
 have HMx := Az.mk hmx
 obtain ⟨n, hn⟩ : ∃ n, n = fs.length := ⟨_, rfl⟩
 have Hn := Az.mk hn
 rw [← hn] at hmx HF ⊢
 have HFE := Az.mk (firstE_seq G fs)
 obtain ⟨fe, hfe⟩ : ∃ fe, fe = firstE G fs := ⟨_, rfl⟩
 rw [← hfe] at HFE ⊢
 obtain ⟨Z, hz1, hz2⟩ : ∃ Z : Nat → Bool, (decide (0 ≤ G) = Z 1) ∧ (decide (1 ≤ (n : Int)) = Z 2) := ⟨fun i => match i with | 1 => decide (0 ≤ G) | _ => decide (1 ≤ (n : Int)), rfl, rfl⟩
 obtain ⟨kG, hkG⟩ : ∃ b, (Z 1 && decide (G ≤ 16)) = b := ⟨_, rfl⟩
 obtain ⟨kn, hkn⟩ : ∃ b, (Z 2 && decide ((n : Int) ≤ 65535)) = b := ⟨_, rfl⟩
 have EkG := Az.mk hkG
 have Ekn := Az.mk hkn
 have HE1 : Az (mustE kG 18 0 = globE G) := ⟨by rw [← hkG, ← hz1]; exact glob_must G⟩
 have HE2 : Az (mustE kn 20 (globE G) = seqE (globE G) (funcsE fs.length)) := ⟨by rw [← hkn, ← hz2, hn]; exact funcs_must _ _⟩
 have HHd : Az (HeadsC w A fs) := ⟨heads_of hF⟩
 clear hF hn hfe hkG hkn
 go_enter Tryd.func16, Tryd.ntmps16
 go_wp2_with (first | ((with_reducible refine gate_dst (N := 1) rfl ?_); refine box_event ?hg (N := 1) ?hd (cs := #[.int .i64 G, .slice A n c]) (t := 24) ?hr ?_; (case hd => rfl); (case hg => rfl); (case hr => first | (go_simp; done) | (go_simp; rfl)); intro g1 hg w1 hbox hb; have G1 : Az (w.heap.size ≤ g1) := ⟨by have := HB.out.size; omega⟩; replace HB := Az.mk (HB.out.trans (hb.mono HB.out.size)); have BK1 := Az.mk hbox; clear hg hbox hb; have u0 : World.cell? w1 ⟨g1, 0, none⟩ = some (.int .i64 G) := (bZ BK1.out 0).trans rfl; have u1 : World.cell? w1 ⟨g1, 1, none⟩ = some (.slice A n c) := (bZ BK1.out 1).trans rfl) | ((with_reducible refine gate_dst (N := 10) rfl ?_); refine box_event ?hg (N := 10) ?hd (cs := #[.int .i64 G, .slice A n c, .int .i64 0, .int .i64 0]) (t := 55) ?hr ?_; (case hd => rfl); (case hg => rfl); (case hr => first | (go_simp; done) | (go_simp; rfl)); intro g10 hg w10 hbox hb; have G10 : Az (w.heap.size ≤ g10) := ⟨by have := HB.out.size; omega⟩; replace HB := Az.mk (HB.out.trans (hb.mono HB.out.size)); replace BK1 := Az.mk (kZ BK1.out hb); have BK10 := Az.mk hbox; clear hg hbox hb; clear u0 u1; have u0 : World.cell? w10 ⟨g1, 0, none⟩ = some (.int .i64 G) := (bZ BK1.out 0).trans rfl; have u1 : World.cell? w10 ⟨g1, 1, none⟩ = some (.slice A n c) := (bZ BK1.out 1).trans rfl; have HH : Az (Wk w w w10 g10 G A n c 0 0) := ⟨⟨BK10.out, HB.out, KeepBut.of_below HB.out _ _, G10.out⟩⟩; have NE1 : Az (g1 ≠ g10) := ⟨blk_ne_ty BK1.out BK10.out (by decide)⟩) | ((with_reducible refine gate_dst (N := 16) rfl ?_); refine merge4w (.bool kG) ?hk ?_; (case hk => intro rest' hj; simp only [Act.put, pn] at hj; cases hz_ : Z 1; (focus (simp only [hz_] at hj; obtain rfl : kG = false := (by simp [← EkG.out, hz_]); go_wp2_with fail; exact hj _ _ _)); (focus (simp only [hz_] at hj; obtain rfl : kG = decide (G ≤ 16) := (by simp [← EkG.out, hz_]); go_wp2_with fail; exact hj _ _ _))); intro x0_ x1_ x2_; simp only [Act.put, pn]))
 clear BK10
 refine (wmust_any _ _ HH.out.at_).mono ?_
 rintro e wm1 ⟨rfl, hW⟩
 clear u0 u1
 replace BK1 := Az.mk (hW.kp.blk BK1.out NE1.out (by simp))
 replace HH := Az.mk (HH.out.trans hW)
 clear hW
 have u0 : World.cell? _ ⟨g1, 0, none⟩ = some (.int .i64 G) := (bZ BK1.out 0).trans rfl
 have u1 : World.cell? _ ⟨g1, 1, none⟩ = some (.slice A n c) := (bZ BK1.out 1).trans rfl
 rw [HE1.out] at HH
 go_wp2_with (first | ((with_reducible refine gate_dst (N := 27) rfl ?_); refine merge5 (.bool kn) ?hk ?_; (case hk => intro rest' hj; simp only [Act.put, pn] at hj; cases hz_ : Z 2; (focus (simp only [hz_] at hj; obtain rfl : kn = false := (by simp [← Ekn.out, hz_]); go_wp2_with fail; exact hj _ _ _ _)); (focus (simp only [hz_] at hj; obtain rfl : kn = decide ((n : Int) ≤ 65535) := (by simp [← Ekn.out, hz_]); go_wp2_with fail; exact hj _ _ _ _))); intro x0_ x1_ x2_ x3_; simp only [Act.put, pn]))
 refine (wmust_any _ _ HH.out.at_).mono ?_
 rintro e wm2 ⟨rfl, hW⟩
 clear u0 u1
 replace BK1 := Az.mk (hW.kp.blk BK1.out NE1.out (by simp))
 replace HH := Az.mk (HH.out.trans hW)
 clear hW
 have u0 : World.cell? _ ⟨g1, 0, none⟩ = some (.int .i64 G) := (bZ BK1.out 0).trans rfl
 have u1 : World.cell? _ ⟨g1, 1, none⟩ = some (.slice A n c) := (bZ BK1.out 1).trans rfl
 rw [HE2.out] at HH
 obtain ⟨e2, he2⟩ : ∃ e2, e2 = seqE (globE G) (funcsE fs.length) := ⟨_, rfl⟩
 rw [← he2] at HH HFE
 clear he2 HE1 HE2 hz1 hz2
 have HI0 : Az (SInv (headS fs) e2 0 0 0 e2) := ⟨SInv.start fun _ => ⟨rfl, by decide, by decide⟩⟩
 go_wp2_with fail
 go_loopw [4] (fun v4 w' => ∃ (q : Nat) (l e : Int), q ≤ n ∧ v4 = .int .i64 (q : Int) ∧ Az (Wk w w w' g10 G A n c l e) ∧ Az (SInv (headS fs) e2 0 q l e) ∧ Az (w'.heap[g1]? = some (.cells #[.int .i64 G, .slice A n c] 24 (0, 0)))) (fun i _ => n - (intOf i).toNat)
 case atStart => exact ⟨0, 0, e2, Nat.zero_le _, rfl, HH, HI0, BK1⟩
 case round =>
  clear HH HI0 BK1 u0 u1
  obtain ⟨q, l, e, hq, rfl, HH, HI, BK1⟩ := hrel
  have u0 : World.cell? _ ⟨g1, 0, none⟩ = some (.int .i64 G) := (bZ BK1.out 0).trans rfl
  have u1 : World.cell? _ ⟨g1, 1, none⟩ = some (.slice A n c) := (bZ BK1.out 1).trans rfl
  have p3 := HH.out.c3
  by_cases hlt : q < n
  case neg =>
   have q1 : decide ((q : Int) < (n : Int)) = false := decide_eq_false (by omega)
   have HD : Az (e = seqE e2 (iter (headS fs) fs.length 0).1 ∧ (e = 0 → l = (iter (headS fs) fs.length 0).2 ∧ 0 ≤ l ∧ l < 1048576)) := ⟨HI.out.done (by rw [← Hn.out]; exact hq) (.inl (by rw [← Hn.out]; omega))⟩
   clear hq HI
   obtain ⟨HDe, HDl⟩ := HD.out
   obtain ⟨lh, hlh⟩ : ∃ lh, lh = (iter (headS fs) fs.length 0).2 := ⟨_, rfl⟩
   rw [← hlh] at HDl
   have HFE2 : Az (fe = seqE e (iter (codeS G fs) fs.length lh).1) := ⟨by rw [HFE.out, ← HDe, ← hlh]⟩
   have HI0 : Az (SInv (codeS G fs) e lh 0 l e) := ⟨SInv.start HDl⟩
   clear HDe HDl HD hlh
   go_wp2_with fail
   clear p3
   go_loopw [5] (fun v5 w' => ∃ (q2 : Nat) (l2 er : Int), q2 ≤ n ∧ v5 = .int .i64 (q2 : Int) ∧ Az (Wk w w w' g10 G A n c l2 er) ∧ Az (SInv (codeS G fs) e lh q2 l2 er) ∧ Az (w'.heap[g1]? = some (.cells #[.int .i64 G, .slice A n c] 24 (0, 0)))) (fun i _ => n - (intOf i).toNat)
   case atStart => exact ⟨0, l, e, Nat.zero_le _, rfl, HH, HI0, BK1⟩
   case round =>
    clear HH HI0 BK1 u0 u1
    obtain ⟨wO, rfl⟩ : ∃ wO, wO = wr := ⟨_, rfl⟩
    obtain ⟨q2, l2, er, hq2, rfl, HH, HI, BK1⟩ := hrel
    have u0 : World.cell? _ ⟨g1, 0, none⟩ = some (.int .i64 G) := (bZ BK1.out 0).trans rfl
    have u1 : World.cell? _ ⟨g1, 1, none⟩ = some (.slice A n c) := (bZ BK1.out 1).trans rfl
    have p3 := HH.out.c3
    by_cases hlt2 : q2 < n
    case neg =>
     have q1 : decide ((q2 : Int) < (n : Int)) = false := decide_eq_false (by omega)
     have hl2 := hlt2
     have HX : Az (er = fe) := ⟨by rw [HFE2.out]; exact (HI.out.done (by rw [← Hn.out]; exact hq2) (.inl (by rw [← Hn.out]; omega))).1⟩
     clear hlt2 hq2 HI
     go_wp2_with fail
     go_ret
     exact ⟨by first | rfl | (rw [HX.out]; done) | (rw [HX.out]; rfl) | (simp [HX.out]; done), HH.out.bel⟩
    by_cases he : er = 0
    case neg =>
     have q1 : (q2 : Int) < (n : Int) := Int.ofNat_lt.2 hlt2
     have heb : (er == 0) = false := beq_eq_false_iff_ne.2 he
     have HX : Az (er = fe) := ⟨by rw [HFE2.out]; exact (HI.out.done (by rw [← Hn.out]; exact hq2) (.inr he)).1⟩
     clear he hlt2 hq2 HI
     go_wp2_with fail
     go_ret
     exact ⟨by first | rfl | (rw [HX.out]; done) | (rw [HX.out]; rfl) | (simp [HX.out]; done), HH.out.bel⟩
    subst he
    have q0 : (0 : Int) ≤ (q2 : Int) := Int.natCast_nonneg q2
    have q1 : (q2 : Int) < (n : Int) := Int.ofNat_lt.2 hlt2
    have hwp : wrap64 ((q2 : Int) + 1) = (q2 : Int) + 1 := wrap_in (by omega) (by omega)
    have hql : q2 < fs.length := by rw [← Hn.out]; exact hlt2
    obtain ⟨ad, A3, c3, hA, x0, x1, x2, x3, hC3⟩ := at46 (Hn.out ▸ HF.out : k46.C w A fs.length fs) q2 hql rfl
    subst hA
    have hgf : fs.getD q2 z46 = fs[q2] := getD46 fs q2 hql
    obtain ⟨f, hf⟩ : ∃ f, f = fs[q2] := ⟨_, rfl⟩
    rw [← hf] at x0 x1 x2 x3 hC3 hgf
    have HGf := Az.mk hgf
    have hm3 : f.f3.length ≤ 9223372036854775807 := Kd.C_max hC3
    have HC3 := Az.mk hC3
    replace x0 := cZ HH.out.bel x0
    replace x1 := cZ HH.out.bel x1
    replace x2 := cZ HH.out.bel x2
    replace x3 := cZ HH.out.bel x3
    clear hf hC3 hql hgf
    go_wp2_with fail
    clear x0 x1 x2 x3 p3 u0 u1
    have HH6 : Az (Wk w w (wO.alloc (.cells #[.int .i64 f.f0, .int .i64 f.f1, .int .i64 f.f2, .slice A3 f.f3.length c3] 46)) g10 G (some ad) n c l2 0) := ⟨HH.out.below (lZ (Below.refl _ _) _)⟩
    have B16 : Az ((wO.alloc (.cells #[.int .i64 f.f0, .int .i64 f.f1, .int .i64 f.f2, .slice A3 f.f3.length c3] 46)).heap[g1]? = some (.cells #[.int .i64 G, .slice (some ad) n c] 24 (0, 0))) := ⟨aZ BK1.out _⟩
    have B66 : Az ((wO.alloc (.cells #[.int .i64 f.f0, .int .i64 f.f1, .int .i64 f.f2, .slice A3 f.f3.length c3] 46)).heap[wO.heap.size]? = some (.cells #[.int .i64 f.f0, .int .i64 f.f1, .int .i64 f.f2, .slice A3 f.f3.length c3] 46 (0, 0))) := ⟨blk_new wO _⟩
    have HNg : Az (wO.heap.size ≠ g10) := ⟨by have := blk_lt HH.out.blk; omega⟩
    have HIi : Az (SInv (instrS G fs f) 0 l2 0 l2 0) := ⟨SInv.start fun _ => ⟨rfl, (HI.out.2.1 rfl).2⟩⟩
    clear HH BK1
    go_loopw [7] (fun v7 w' => ∃ (k : Nat) (l3 e3 : Int), k ≤ f.f3.length ∧ v7 = .int .i64 (k : Int) ∧ Az (Wk w w w' g10 G (some ad) n c l3 e3) ∧ Az (SInv (instrS G fs f) 0 l2 k l3 e3) ∧ Az (w'.heap[g1]? = some (.cells #[.int .i64 G, .slice (some ad) n c] 24 (0, 0))) ∧ Az (w'.heap[wO.heap.size]? = some (.cells #[.int .i64 f.f0, .int .i64 f.f1, .int .i64 f.f2, .slice A3 f.f3.length c3] 46 (0, 0)))) (fun i _ => f.f3.length - (intOf i).toNat)
    case atStart => exact ⟨0, l2, 0, Nat.zero_le _, rfl, HH6, HIi, B16, B66⟩
    case round =>
     clear HH6 HIi B16 B66
     obtain ⟨k, l3, e3, hk, rfl, HH, HIk, BK1, BK6⟩ := hrel
     have y0 : World.cell? _ ⟨wO.heap.size, 0, none⟩ = some (.int .i64 f.f0) := (bZ BK6.out 0).trans rfl
     have y1 : World.cell? _ ⟨wO.heap.size, 1, none⟩ = some (.int .i64 f.f1) := (bZ BK6.out 1).trans rfl
     have y2 : World.cell? _ ⟨wO.heap.size, 2, none⟩ = some (.int .i64 f.f2) := (bZ BK6.out 2).trans rfl
     have y3 : World.cell? _ ⟨wO.heap.size, 3, none⟩ = some (.slice A3 f.f3.length c3) := (bZ BK6.out 3).trans rfl
     have p3 := HH.out.c3
     by_cases hlt3 : k < f.f3.length
     case neg =>
      have k1 : decide ((k : Int) < (f.f3.length : Int)) = false := decide_eq_false (by omega)
      have HD := (HIk.out.done hk (.inl (by omega)))
      rw [seqE_zero] at HD
      have HIn : Az (SInv (codeS G fs) e lh (q2 + 1) l3 e3) := ⟨HI.out.next (by unfold codeS; rw [HGf.out]; exact HD.1.symm) (fun h => by unfold codeS; rw [HGf.out]; exact HD.2 h)⟩
      clear HD hk HIk
      go_wp2_with fail
      go_roundw
      case rel => exact ⟨q2 + 1, l3, e3, by omega, by go_num, HH, HIn, BK1⟩
      case measure => simp [intOf]; omega
     by_cases he3 : e3 = 0
     case neg =>
      have k1 : (k : Int) < (f.f3.length : Int) := Int.ofNat_lt.2 hlt3
      have heb : (e3 == 0) = false := beq_eq_false_iff_ne.2 he3
      have HD := (HIk.out.done hk (.inr he3))
      rw [seqE_zero] at HD
      have HIn : Az (SInv (codeS G fs) e lh (q2 + 1) l3 e3) := ⟨HI.out.next (by unfold codeS; rw [HGf.out]; exact HD.1.symm) (fun h => by unfold codeS; rw [HGf.out]; exact HD.2 h)⟩
      clear he3 HD hk HIk
      go_wp2_with fail
      go_roundw
      case rel => exact ⟨q2 + 1, l3, e3, by omega, by go_num, HH, HIn, BK1⟩
      case measure => simp [intOf]; omega
     subst he3
     have k0 : (0 : Int) ≤ (k : Int) := Int.natCast_nonneg k
     have k1 : (k : Int) < (f.f3.length : Int) := Int.ofNat_lt.2 hlt3
     have hwk : wrap64 ((k : Int) + 1) = (k : Int) + 1 := wrap_in (by omega) (by omega)
     have hws : wrap64 ((f.f3.length : Int) - 1) = (f.f3.length : Int) - 1 := wrap_in (by omega) (by omega)
     obtain ⟨ad5, A5, c5, A6, c6, hA3, hX, h5, h6⟩ := at50 HC3.out k hlt3 rfl
     subst hA3
     have hgx : f.f3.getD k z50 = f.f3[k] := getD50 f.f3 k hlt3
     obtain ⟨x, hx⟩ : ∃ x, x = f.f3[k] := ⟨_, rfl⟩
     rw [← hx] at hX h5 h6 hgx
     have HGx := Az.mk hgx
     have H5 := Az.mk h5
     have H6 := Az.mk h6
     obtain ⟨i0, i1, i2, i3, i4, i5, i6⟩ := InsW.below hX HH.out.bel
     have HLb := Az.mk (HIk.out.2.1 rfl).2
     clear hx h5 h6 hX hgx
     obtain ⟨la, hla⟩ : ∃ la, la = ((k : Int) == (f.f3.length : Int) - 1) := ⟨_, rfl⟩
     have HLa : Az (la = (k + 1 == f.f3.length)) := ⟨by rw [hla, Bool.eq_iff_iff, beq_iff_eq, beq_iff_eq]; omega⟩
     have hla2 := hla.symm
     clear hla
     clear y3
     have y3 : World.cell? _ ⟨wO.heap.size, 3, none⟩ = some (.slice (some ad5) f.f3.length c3) := (bZ BK6.out 3).trans rfl
     go_wp2_with fail
     refine start_ (n := 14) (S := fun w' => w'.cell? ⟨wO.heap.size, 0, none⟩ = some (.int .i64 f.f0) ∧ w'.cell? ⟨wO.heap.size, 1, none⟩ = some (.int .i64 f.f1) ∧ w'.cell? ⟨wO.heap.size, 2, none⟩ = some (.int .i64 f.f2) ∧ w'.cell? ⟨wO.heap.size, 3, none⟩ = some (.slice (some ad5) f.f3.length c3) ∧ w'.cell? (ad5.add (k * 7)) = some (.int .i64 x.f0) ∧ w'.cell? ⟨(ad5.add (k * 7)).block, (ad5.add (k * 7)).off + 1, none⟩ = some (.int .i64 x.f1) ∧ w'.cell? ⟨(ad5.add (k * 7)).block, (ad5.add (k * 7)).off + 2, none⟩ = some (.int .i64 x.f2) ∧ w'.cell? ⟨(ad5.add (k * 7)).block, (ad5.add (k * 7)).off + 3, none⟩ = some (.int .i64 x.f3) ∧ w'.cell? ⟨(ad5.add (k * 7)).block, (ad5.add (k * 7)).off + 4, none⟩ = some (.int .i64 x.f4) ∧ w'.cell? ⟨(ad5.add (k * 7)).block, (ad5.add (k * 7)).off + 5, none⟩ = some (.slice A5 x.f5.length c5) ∧ w'.cell? ⟨(ad5.add (k * 7)).block, (ad5.add (k * 7)).off + 6, none⟩ = some (.slice A6 x.f6.length c6)) (ds := [13]) #[false, false, false, false, false, false, false, false, false, false, false, false, false, false] (by kernel_rfl) rfl rfl ⟨y0, y1, y2, y3, i0, i1, i2, i3, i4, i5, i6⟩ (fun hHeld => ?_)
     refine with_tabW TAB_16.tab15 TAB_16.bits15 (fun HT_ HW_ => ?_)
     refine pq 0 (some 94) HT_ rfl rfl (fun _ _ _ h => h) ?_
     refine pq 2 (some 96) HT_ rfl rfl (fun _ _ _ h => h) ?_
     refine pq 4 (some 98) HT_ rfl rfl (fun _ _ _ h => h) ?_
     refine pq 7 (some 101) HT_ rfl rfl (fun _ _ _ h => h) ?_
     refine pq 8 (some 102) HT_ rfl rfl (fun _ _ _ h => h) ?_
     refine pt 1 (some 95) (v := ?_) (a' := ?_) rfl rfl (take_ofW HT_.out HW_.out (by kernel_rfl)) (fun _ _ _ h => h) (Or.inl ⟨by rfl, ?_⟩) hHeld ?_ ?_
     rotate_left; (rintro w' ⟨s0, s1, s2, s3, s4, s5, s6, s7, s8, s9, s10⟩; go_simp; with_reducible rfl); rotate_left; (simp only [Act.put, pn, i64_w, i32_w]; rfl)
     refine pt 3 (some 97) (v := ?_) (a' := ?_) rfl rfl (take_ofW HT_.out HW_.out (by kernel_rfl)) (fun _ _ _ h => h) (Or.inl ⟨by rfl, ?_⟩) hHeld ?_ ?_
     rotate_left; (rintro w' ⟨s0, s1, s2, s3, s4, s5, s6, s7, s8, s9, s10⟩; go_simp; with_reducible rfl); rotate_left; (simp only [Act.put, pn, i64_w, i32_w]; rfl)
     refine pq 5 (some 99) HT_ rfl rfl (fun _ _ _ h => h) ?_
     refine pt 6 (some 100) (v := ?_) (a' := ?_) rfl rfl (take_ofW HT_.out HW_.out (by kernel_rfl)) (fun _ _ _ h => h) (Or.inl ⟨by rfl, ?_⟩) hHeld ?_ ?_
     rotate_left; (rintro w' ⟨s0, s1, s2, s3, s4, s5, s6, s7, s8, s9, s10⟩; go_simp; with_reducible rfl); rotate_left; (simp only [Act.put, pn, i64_w, i32_w]; rfl)
     refine pt 9 (some 103) (v := ?_) (a' := ?_) rfl rfl (take_ofW HT_.out HW_.out (by kernel_rfl)) (fun _ _ _ h => h) (Or.inl ⟨by rfl, ?_⟩) hHeld ?_ ?_
     rotate_left; (rintro w' ⟨s0, s1, s2, s3, s4, s5, s6, s7, s8, s9, s10⟩; go_simp; with_reducible rfl); rotate_left; (simp only [Act.put, pn, i64_w, i32_w]; rfl)
     refine pq 10 (some 104) HT_ rfl rfl (fun _ _ _ h => h) ?_
     refine pq 11 (some 105) HT_ rfl rfl (fun _ _ _ h => h) ?_
     refine pq 12 (some 106) HT_ rfl rfl (fun _ _ _ h => h) ?_
     refine last_ (i := 13) (N := some 107) #[true, true, true, true, true, true, true, true, true, true, true, true, true, true] rfl rfl (one_of HT_.out (by kernel_rfl)) (by decide) (fun K hK => ?_)
     refine goes_ Tryd.func36 (by kernel_rfl) rfl #[.pointer (some ⟨g10, 0, none⟩), .agg #[.int .i64 f.f0, .int .i64 f.f1, .int .i64 f.f2, .slice (some ad5) f.f3.length c3], .agg #[.int .i64 x.f0, .int .i64 x.f1, .int .i64 x.f2, .int .i64 x.f3, .int .i64 x.f4, .slice A5 x.f5.length c5, .slice A6 x.f6.length c6], .bool la] (by rfl) rfl rfl (by simp only [List.map_toArray, List.map_cons, List.map_nil]; rfl) ?_
     with_reducible refine (rinstr_any f (some ad5) c3 x A5 c5 A6 c6 la (show Wk w _ _ g10 G (some ad) fs.length c l3 0 from Hn.out ▸ HH.out.drew.at_) HLb.out.1 HLb.out.2 HHd.out HMx.out H5.out H6.out).mono ?_
     rintro e_ wv ⟨rfl, hW⟩
     refine ⟨_, rfl, ?_⟩
     rw [← Hn.out] at hW
     have HHv := Az.mk (HH.out.drew.trans hW)
     have B1v := Az.mk (hW.kp.blk (show (World.drew _).heap[g1]? = _ from BK1.out) NE1.out (by simp))
     have B6v := Az.mk (hW.kp.blk (show (World.drew _).heap[wO.heap.size]? = _ from BK6.out) HNg.out (by simp))
     clear hW
     have HIv : Az (SInv (instrS G fs f) 0 l2 (k + 1) (l3 + newL x) (seqE (seqE 0 (opE l3 x la)) (partsF G fs f.f1 f.f2 f.f3.length x (partsOf x.f0.toNat).length))) := ⟨HIk.out.next (by rw [HLa.out]; exact (instrS_ref HGx.out).1) (fun h => by obtain ⟨h1, _⟩ := seqE_left h; rw [seqE_zero] at h1; have h2 := opE_ok HLb.out h1; exact ⟨(instrS_ref HGx.out).2.symm, h2.2.2.1, h2.2.2.2⟩)⟩
     refine hK.out _ _ ?_
     clear hK K
     refine norm_ (a' := ?_) ?_ ?_
     rotate_left
     ·show Act.put _ (some 107) _ = _
      simp only [Act.put, pn, i64_w, i32_w]
      rfl
     refine done_ (done_of HT_.out (by kernel_rfl)) ?_
     clear HT_ HW_ hHeld p3 y0 y1 y2 y3 i0 i1 i2 i3 i4 i5 i6
     go_wp2_with fail
     go_roundw
     case rel => exact ⟨k + 1, _, _, by omega, by go_num, HHv, HIv, B1v, B6v⟩
     case measure => simp [intOf]; omega
  by_cases he : e = 0
  case neg =>
   have q1 : (q : Int) < (n : Int) := Int.ofNat_lt.2 hlt
   have heb : (e == 0) = false := beq_eq_false_iff_ne.2 he
   have HD : Az (e = seqE e2 (iter (headS fs) fs.length 0).1 ∧ (e = 0 → l = (iter (headS fs) fs.length 0).2 ∧ 0 ≤ l ∧ l < 1048576)) := ⟨HI.out.done (by rw [← Hn.out]; exact hq) (.inr he)⟩
   clear hlt hq HI he
   obtain ⟨HDe, HDl⟩ := HD.out
   obtain ⟨lh, hlh⟩ : ∃ lh, lh = (iter (headS fs) fs.length 0).2 := ⟨_, rfl⟩
   rw [← hlh] at HDl
   have HFE2 : Az (fe = seqE e (iter (codeS G fs) fs.length lh).1) := ⟨by rw [HFE.out, ← HDe, ← hlh]⟩
   have HI0 : Az (SInv (codeS G fs) e lh 0 l e) := ⟨SInv.start HDl⟩
   clear HDe HDl HD hlh
   go_wp2_with fail
   clear p3
   go_loopw [5] (fun v5 w' => ∃ (q2 : Nat) (l2 er : Int), q2 ≤ n ∧ v5 = .int .i64 (q2 : Int) ∧ Az (Wk w w w' g10 G A n c l2 er) ∧ Az (SInv (codeS G fs) e lh q2 l2 er) ∧ Az (w'.heap[g1]? = some (.cells #[.int .i64 G, .slice A n c] 24 (0, 0)))) (fun i _ => n - (intOf i).toNat)
   case atStart => exact ⟨0, l, e, Nat.zero_le _, rfl, HH, HI0, BK1⟩
   case round =>
    clear HH HI0 BK1 u0 u1
    obtain ⟨wO, rfl⟩ : ∃ wO, wO = wr := ⟨_, rfl⟩
    obtain ⟨q2, l2, er, hq2, rfl, HH, HI, BK1⟩ := hrel
    have u0 : World.cell? _ ⟨g1, 0, none⟩ = some (.int .i64 G) := (bZ BK1.out 0).trans rfl
    have u1 : World.cell? _ ⟨g1, 1, none⟩ = some (.slice A n c) := (bZ BK1.out 1).trans rfl
    have p3 := HH.out.c3
    by_cases hlt2 : q2 < n
    case neg =>
     have q1 : decide ((q2 : Int) < (n : Int)) = false := decide_eq_false (by omega)
     have hl2 := hlt2
     have HX : Az (er = fe) := ⟨by rw [HFE2.out]; exact (HI.out.done (by rw [← Hn.out]; exact hq2) (.inl (by rw [← Hn.out]; omega))).1⟩
     clear hlt2 hq2 HI
     go_wp2_with fail
     go_ret
     exact ⟨by first | rfl | (rw [HX.out]; done) | (rw [HX.out]; rfl) | (simp [HX.out]; done), HH.out.bel⟩
    by_cases he : er = 0
    case neg =>
     have q1 : (q2 : Int) < (n : Int) := Int.ofNat_lt.2 hlt2
     have heb : (er == 0) = false := beq_eq_false_iff_ne.2 he
     have HX : Az (er = fe) := ⟨by rw [HFE2.out]; exact (HI.out.done (by rw [← Hn.out]; exact hq2) (.inr he)).1⟩
     clear he hlt2 hq2 HI
     go_wp2_with fail
     go_ret
     exact ⟨by first | rfl | (rw [HX.out]; done) | (rw [HX.out]; rfl) | (simp [HX.out]; done), HH.out.bel⟩
    subst he
    have q0 : (0 : Int) ≤ (q2 : Int) := Int.natCast_nonneg q2
    have q1 : (q2 : Int) < (n : Int) := Int.ofNat_lt.2 hlt2
    have hwp : wrap64 ((q2 : Int) + 1) = (q2 : Int) + 1 := wrap_in (by omega) (by omega)
    have hql : q2 < fs.length := by rw [← Hn.out]; exact hlt2
    obtain ⟨ad, A3, c3, hA, x0, x1, x2, x3, hC3⟩ := at46 (Hn.out ▸ HF.out : k46.C w A fs.length fs) q2 hql rfl
    subst hA
    have hgf : fs.getD q2 z46 = fs[q2] := getD46 fs q2 hql
    obtain ⟨f, hf⟩ : ∃ f, f = fs[q2] := ⟨_, rfl⟩
    rw [← hf] at x0 x1 x2 x3 hC3 hgf
    have HGf := Az.mk hgf
    have hm3 : f.f3.length ≤ 9223372036854775807 := Kd.C_max hC3
    have HC3 := Az.mk hC3
    replace x0 := cZ HH.out.bel x0
    replace x1 := cZ HH.out.bel x1
    replace x2 := cZ HH.out.bel x2
    replace x3 := cZ HH.out.bel x3
    clear hf hC3 hql hgf
    go_wp2_with fail
    clear x0 x1 x2 x3 p3 u0 u1
    have HH6 : Az (Wk w w (wO.alloc (.cells #[.int .i64 f.f0, .int .i64 f.f1, .int .i64 f.f2, .slice A3 f.f3.length c3] 46)) g10 G (some ad) n c l2 0) := ⟨HH.out.below (lZ (Below.refl _ _) _)⟩
    have B16 : Az ((wO.alloc (.cells #[.int .i64 f.f0, .int .i64 f.f1, .int .i64 f.f2, .slice A3 f.f3.length c3] 46)).heap[g1]? = some (.cells #[.int .i64 G, .slice (some ad) n c] 24 (0, 0))) := ⟨aZ BK1.out _⟩
    have B66 : Az ((wO.alloc (.cells #[.int .i64 f.f0, .int .i64 f.f1, .int .i64 f.f2, .slice A3 f.f3.length c3] 46)).heap[wO.heap.size]? = some (.cells #[.int .i64 f.f0, .int .i64 f.f1, .int .i64 f.f2, .slice A3 f.f3.length c3] 46 (0, 0))) := ⟨blk_new wO _⟩
    have HNg : Az (wO.heap.size ≠ g10) := ⟨by have := blk_lt HH.out.blk; omega⟩
    have HIi : Az (SInv (instrS G fs f) 0 l2 0 l2 0) := ⟨SInv.start fun _ => ⟨rfl, (HI.out.2.1 rfl).2⟩⟩
    clear HH BK1
    go_loopw [7] (fun v7 w' => ∃ (k : Nat) (l3 e3 : Int), k ≤ f.f3.length ∧ v7 = .int .i64 (k : Int) ∧ Az (Wk w w w' g10 G (some ad) n c l3 e3) ∧ Az (SInv (instrS G fs f) 0 l2 k l3 e3) ∧ Az (w'.heap[g1]? = some (.cells #[.int .i64 G, .slice (some ad) n c] 24 (0, 0))) ∧ Az (w'.heap[wO.heap.size]? = some (.cells #[.int .i64 f.f0, .int .i64 f.f1, .int .i64 f.f2, .slice A3 f.f3.length c3] 46 (0, 0)))) (fun i _ => f.f3.length - (intOf i).toNat)
    case atStart => exact ⟨0, l2, 0, Nat.zero_le _, rfl, HH6, HIi, B16, B66⟩
    case round =>
     clear HH6 HIi B16 B66
     obtain ⟨k, l3, e3, hk, rfl, HH, HIk, BK1, BK6⟩ := hrel
     have y0 : World.cell? _ ⟨wO.heap.size, 0, none⟩ = some (.int .i64 f.f0) := (bZ BK6.out 0).trans rfl
     have y1 : World.cell? _ ⟨wO.heap.size, 1, none⟩ = some (.int .i64 f.f1) := (bZ BK6.out 1).trans rfl
     have y2 : World.cell? _ ⟨wO.heap.size, 2, none⟩ = some (.int .i64 f.f2) := (bZ BK6.out 2).trans rfl
     have y3 : World.cell? _ ⟨wO.heap.size, 3, none⟩ = some (.slice A3 f.f3.length c3) := (bZ BK6.out 3).trans rfl
     have p3 := HH.out.c3
     by_cases hlt3 : k < f.f3.length
     case neg =>
      have k1 : decide ((k : Int) < (f.f3.length : Int)) = false := decide_eq_false (by omega)
      have HD := (HIk.out.done hk (.inl (by omega)))
      rw [seqE_zero] at HD
      have HIn : Az (SInv (codeS G fs) e lh (q2 + 1) l3 e3) := ⟨HI.out.next (by unfold codeS; rw [HGf.out]; exact HD.1.symm) (fun h => by unfold codeS; rw [HGf.out]; exact HD.2 h)⟩
      clear HD hk HIk
      go_wp2_with fail
      go_roundw
      case rel => exact ⟨q2 + 1, l3, e3, by omega, by go_num, HH, HIn, BK1⟩
      case measure => simp [intOf]; omega
     by_cases he3 : e3 = 0
     case neg =>
      have k1 : (k : Int) < (f.f3.length : Int) := Int.ofNat_lt.2 hlt3
      have heb : (e3 == 0) = false := beq_eq_false_iff_ne.2 he3
      have HD := (HIk.out.done hk (.inr he3))
      rw [seqE_zero] at HD
      have HIn : Az (SInv (codeS G fs) e lh (q2 + 1) l3 e3) := ⟨HI.out.next (by unfold codeS; rw [HGf.out]; exact HD.1.symm) (fun h => by unfold codeS; rw [HGf.out]; exact HD.2 h)⟩
      clear he3 HD hk HIk
      go_wp2_with fail
      go_roundw
      case rel => exact ⟨q2 + 1, l3, e3, by omega, by go_num, HH, HIn, BK1⟩
      case measure => simp [intOf]; omega
     subst he3
     have k0 : (0 : Int) ≤ (k : Int) := Int.natCast_nonneg k
     have k1 : (k : Int) < (f.f3.length : Int) := Int.ofNat_lt.2 hlt3
     have hwk : wrap64 ((k : Int) + 1) = (k : Int) + 1 := wrap_in (by omega) (by omega)
     have hws : wrap64 ((f.f3.length : Int) - 1) = (f.f3.length : Int) - 1 := wrap_in (by omega) (by omega)
     obtain ⟨ad5, A5, c5, A6, c6, hA3, hX, h5, h6⟩ := at50 HC3.out k hlt3 rfl
     subst hA3
     have hgx : f.f3.getD k z50 = f.f3[k] := getD50 f.f3 k hlt3
     obtain ⟨x, hx⟩ : ∃ x, x = f.f3[k] := ⟨_, rfl⟩
     rw [← hx] at hX h5 h6 hgx
     have HGx := Az.mk hgx
     have H5 := Az.mk h5
     have H6 := Az.mk h6
     obtain ⟨i0, i1, i2, i3, i4, i5, i6⟩ := InsW.below hX HH.out.bel
     have HLb := Az.mk (HIk.out.2.1 rfl).2
     clear hx h5 h6 hX hgx
     obtain ⟨la, hla⟩ : ∃ la, la = ((k : Int) == (f.f3.length : Int) - 1) := ⟨_, rfl⟩
     have HLa : Az (la = (k + 1 == f.f3.length)) := ⟨by rw [hla, Bool.eq_iff_iff, beq_iff_eq, beq_iff_eq]; omega⟩
     have hla2 := hla.symm
     clear hla
     clear y3
     have y3 : World.cell? _ ⟨wO.heap.size, 3, none⟩ = some (.slice (some ad5) f.f3.length c3) := (bZ BK6.out 3).trans rfl
     go_wp2_with fail
     refine start_ (n := 14) (S := fun w' => w'.cell? ⟨wO.heap.size, 0, none⟩ = some (.int .i64 f.f0) ∧ w'.cell? ⟨wO.heap.size, 1, none⟩ = some (.int .i64 f.f1) ∧ w'.cell? ⟨wO.heap.size, 2, none⟩ = some (.int .i64 f.f2) ∧ w'.cell? ⟨wO.heap.size, 3, none⟩ = some (.slice (some ad5) f.f3.length c3) ∧ w'.cell? (ad5.add (k * 7)) = some (.int .i64 x.f0) ∧ w'.cell? ⟨(ad5.add (k * 7)).block, (ad5.add (k * 7)).off + 1, none⟩ = some (.int .i64 x.f1) ∧ w'.cell? ⟨(ad5.add (k * 7)).block, (ad5.add (k * 7)).off + 2, none⟩ = some (.int .i64 x.f2) ∧ w'.cell? ⟨(ad5.add (k * 7)).block, (ad5.add (k * 7)).off + 3, none⟩ = some (.int .i64 x.f3) ∧ w'.cell? ⟨(ad5.add (k * 7)).block, (ad5.add (k * 7)).off + 4, none⟩ = some (.int .i64 x.f4) ∧ w'.cell? ⟨(ad5.add (k * 7)).block, (ad5.add (k * 7)).off + 5, none⟩ = some (.slice A5 x.f5.length c5) ∧ w'.cell? ⟨(ad5.add (k * 7)).block, (ad5.add (k * 7)).off + 6, none⟩ = some (.slice A6 x.f6.length c6)) (ds := [13]) #[false, false, false, false, false, false, false, false, false, false, false, false, false, false] (by kernel_rfl) rfl rfl ⟨y0, y1, y2, y3, i0, i1, i2, i3, i4, i5, i6⟩ (fun hHeld => ?_)
     refine with_tabW TAB_16.tab15 TAB_16.bits15 (fun HT_ HW_ => ?_)
     refine pq 0 (some 94) HT_ rfl rfl (fun _ _ _ h => h) ?_
     refine pq 2 (some 96) HT_ rfl rfl (fun _ _ _ h => h) ?_
     refine pq 4 (some 98) HT_ rfl rfl (fun _ _ _ h => h) ?_
     refine pq 7 (some 101) HT_ rfl rfl (fun _ _ _ h => h) ?_
     refine pq 8 (some 102) HT_ rfl rfl (fun _ _ _ h => h) ?_
     refine pt 1 (some 95) (v := ?_) (a' := ?_) rfl rfl (take_ofW HT_.out HW_.out (by kernel_rfl)) (fun _ _ _ h => h) (Or.inl ⟨by rfl, ?_⟩) hHeld ?_ ?_
     rotate_left; (rintro w' ⟨s0, s1, s2, s3, s4, s5, s6, s7, s8, s9, s10⟩; go_simp; with_reducible rfl); rotate_left; (simp only [Act.put, pn, i64_w, i32_w]; rfl)
     refine pt 3 (some 97) (v := ?_) (a' := ?_) rfl rfl (take_ofW HT_.out HW_.out (by kernel_rfl)) (fun _ _ _ h => h) (Or.inl ⟨by rfl, ?_⟩) hHeld ?_ ?_
     rotate_left; (rintro w' ⟨s0, s1, s2, s3, s4, s5, s6, s7, s8, s9, s10⟩; go_simp; with_reducible rfl); rotate_left; (simp only [Act.put, pn, i64_w, i32_w]; rfl)
     refine pq 5 (some 99) HT_ rfl rfl (fun _ _ _ h => h) ?_
     refine pt 6 (some 100) (v := ?_) (a' := ?_) rfl rfl (take_ofW HT_.out HW_.out (by kernel_rfl)) (fun _ _ _ h => h) (Or.inl ⟨by rfl, ?_⟩) hHeld ?_ ?_
     rotate_left; (rintro w' ⟨s0, s1, s2, s3, s4, s5, s6, s7, s8, s9, s10⟩; go_simp; with_reducible rfl); rotate_left; (simp only [Act.put, pn, i64_w, i32_w]; rfl)
     refine pt 9 (some 103) (v := ?_) (a' := ?_) rfl rfl (take_ofW HT_.out HW_.out (by kernel_rfl)) (fun _ _ _ h => h) (Or.inl ⟨by rfl, ?_⟩) hHeld ?_ ?_
     rotate_left; (rintro w' ⟨s0, s1, s2, s3, s4, s5, s6, s7, s8, s9, s10⟩; go_simp; with_reducible rfl); rotate_left; (simp only [Act.put, pn, i64_w, i32_w]; rfl)
     refine pq 10 (some 104) HT_ rfl rfl (fun _ _ _ h => h) ?_
     refine pq 11 (some 105) HT_ rfl rfl (fun _ _ _ h => h) ?_
     refine pq 12 (some 106) HT_ rfl rfl (fun _ _ _ h => h) ?_
     refine last_ (i := 13) (N := some 107) #[true, true, true, true, true, true, true, true, true, true, true, true, true, true] rfl rfl (one_of HT_.out (by kernel_rfl)) (by decide) (fun K hK => ?_)
     refine goes_ Tryd.func36 (by kernel_rfl) rfl #[.pointer (some ⟨g10, 0, none⟩), .agg #[.int .i64 f.f0, .int .i64 f.f1, .int .i64 f.f2, .slice (some ad5) f.f3.length c3], .agg #[.int .i64 x.f0, .int .i64 x.f1, .int .i64 x.f2, .int .i64 x.f3, .int .i64 x.f4, .slice A5 x.f5.length c5, .slice A6 x.f6.length c6], .bool la] (by rfl) rfl rfl (by simp only [List.map_toArray, List.map_cons, List.map_nil]; rfl) ?_
     with_reducible refine (rinstr_any f (some ad5) c3 x A5 c5 A6 c6 la (show Wk w _ _ g10 G (some ad) fs.length c l3 0 from Hn.out ▸ HH.out.drew.at_) HLb.out.1 HLb.out.2 HHd.out HMx.out H5.out H6.out).mono ?_
     rintro e_ wv ⟨rfl, hW⟩
     refine ⟨_, rfl, ?_⟩
     rw [← Hn.out] at hW
     have HHv := Az.mk (HH.out.drew.trans hW)
     have B1v := Az.mk (hW.kp.blk (show (World.drew _).heap[g1]? = _ from BK1.out) NE1.out (by simp))
     have B6v := Az.mk (hW.kp.blk (show (World.drew _).heap[wO.heap.size]? = _ from BK6.out) HNg.out (by simp))
     clear hW
     have HIv : Az (SInv (instrS G fs f) 0 l2 (k + 1) (l3 + newL x) (seqE (seqE 0 (opE l3 x la)) (partsF G fs f.f1 f.f2 f.f3.length x (partsOf x.f0.toNat).length))) := ⟨HIk.out.next (by rw [HLa.out]; exact (instrS_ref HGx.out).1) (fun h => by obtain ⟨h1, _⟩ := seqE_left h; rw [seqE_zero] at h1; have h2 := opE_ok HLb.out h1; exact ⟨(instrS_ref HGx.out).2.symm, h2.2.2.1, h2.2.2.2⟩)⟩
     refine hK.out _ _ ?_
     clear hK K
     refine norm_ (a' := ?_) ?_ ?_
     rotate_left
     ·show Act.put _ (some 107) _ = _
      simp only [Act.put, pn, i64_w, i32_w]
      rfl
     refine done_ (done_of HT_.out (by kernel_rfl)) ?_
     clear HT_ HW_ hHeld p3 y0 y1 y2 y3 i0 i1 i2 i3 i4 i5 i6
     go_wp2_with fail
     go_roundw
     case rel => exact ⟨k + 1, _, _, by omega, by go_num, HHv, HIv, B1v, B6v⟩
     case measure => simp [intOf]; omega
  subst he
  have q0 : (0 : Int) ≤ (q : Int) := Int.natCast_nonneg q
  have q1 : (q : Int) < (n : Int) := Int.ofNat_lt.2 hlt
  have hwp : wrap64 ((q : Int) + 1) = (q : Int) + 1 := wrap_in (by omega) (by omega)
  have hql : q < fs.length := by rw [← Hn.out]; exact hlt
  obtain ⟨ad, A3, c3, hA, x0, x1, x2, x3, hC3⟩ := at46 (Hn.out ▸ Kd.C_below HF.out HH.out.bel : k46.C _ A fs.length fs) q hql rfl
  subst hA
  have hgf : fs.getD q z46 = fs[q] := getD46 fs q hql
  obtain ⟨f, hf⟩ : ∃ f, f = fs[q] := ⟨_, rfl⟩
  rw [← hf] at x0 x1 x2 x3 hC3 hgf
  have HGf := Az.mk hgf
  have hm3 : f.f3.length ≤ 9223372036854775807 := Kd.C_max hC3
  clear hf hC3 hql hgf
  obtain ⟨HLb0, HLb1, HLb2⟩ := HI.out.2.1 rfl
  have HLb := Az.mk (And.intro HLb1 HLb2)
  clear HLb0 HLb1 HLb2
  go_wp2_with fail
  refine start_ (n := 14) (S := fun w' => w'.cell? ⟨g1, 1, none⟩ = some (.slice (some ad) n c) ∧ w'.cell? (ad.add (q * 4)) = some (.int .i64 f.f0) ∧ w'.cell? ⟨(ad.add (q * 4)).block, (ad.add (q * 4)).off + 1, none⟩ = some (.int .i64 f.f1) ∧ w'.cell? ⟨(ad.add (q * 4)).block, (ad.add (q * 4)).off + 2, none⟩ = some (.int .i64 f.f2) ∧ w'.cell? ⟨(ad.add (q * 4)).block, (ad.add (q * 4)).off + 3, none⟩ = some (.slice A3 f.f3.length c3)) (ds := [13]) #[false, false, false, false, false, false, false, false, false, false, false, false, false, false] (by kernel_rfl) rfl rfl ⟨u1, x0, x1, x2, x3⟩ (fun hHeld => ?_)
  refine with_tabW TAB_16.tab7 TAB_16.bits7 (fun HT_ HW_ => ?_)
  refine pq 0 (some 47) HT_ rfl rfl (fun _ _ _ h => h) ?_
  refine pq 1 (some 48) HT_ rfl rfl (fun _ _ _ h => h) ?_
  refine pq 3 (some 50) HT_ rfl rfl (fun _ _ _ h => h) ?_
  refine pq 6 (some 53) HT_ rfl rfl (fun _ _ _ h => h) ?_
  refine pq 8 (some 55) HT_ rfl rfl (fun _ _ _ h => h) ?_
  refine pt 2 (some 49) (v := ?_) (a' := ?_) rfl rfl (take_ofW HT_.out HW_.out (by kernel_rfl)) (fun _ _ _ h => h) (Or.inl ⟨by rfl, ?_⟩) hHeld ?_ ?_
  rotate_left; (rintro w' ⟨s0, s1, s2, s3, s4⟩; go_simp; with_reducible rfl); rotate_left; (simp only [Act.put, pn, i64_w, i32_w]; rfl)
  refine pq 4 (some 51) HT_ rfl rfl (fun _ _ _ h => h) ?_
  refine pt 5 (some 52) (v := ?_) (a' := ?_) rfl rfl (take_ofW HT_.out HW_.out (by kernel_rfl)) (fun _ _ _ h => h) (Or.inl ⟨by rfl, ?_⟩) hHeld ?_ ?_
  rotate_left; (rintro w' ⟨s0, s1, s2, s3, s4⟩; go_simp; with_reducible rfl); rotate_left; (simp only [Act.put, pn, i64_w, i32_w]; rfl)
  refine pt 7 (some 54) (v := ?_) (a' := ?_) rfl rfl (take_ofW HT_.out HW_.out (by kernel_rfl)) (fun _ _ _ h => h) (Or.inl ⟨by rfl, ?_⟩) hHeld ?_ ?_
  rotate_left; (rintro w' ⟨s0, s1, s2, s3, s4⟩; go_simp; with_reducible rfl); rotate_left; (simp only [Act.put, pn, i64_w, i32_w]; rfl)
  refine pq 9 (some 56) HT_ rfl rfl (fun _ _ _ h => h) ?_
  refine pq 10 (some 57) HT_ rfl rfl (fun _ _ _ h => h) ?_
  refine pt 11 (some 58) (v := ?_) (a' := ?_) rfl rfl (take_ofW HT_.out HW_.out (by kernel_rfl)) (fun _ _ _ h => h) (Or.inl ⟨by rfl, ?_⟩) hHeld ?_ ?_
  rotate_left; (rintro w' ⟨s0, s1, s2, s3, s4⟩; go_simp; with_reducible rfl); rotate_left; (simp only [Act.put, pn, i64_w, i32_w]; rfl)
  refine pq 12 (some 59) HT_ rfl rfl (fun _ _ _ h => h) ?_
  refine last_ (i := 13) (N := some 60) #[true, true, true, true, true, true, true, true, true, true, true, true, true, true] rfl rfl (one_of HT_.out (by kernel_rfl)) (by decide) (fun K hK => ?_)
  refine goes_ Tryd.func35 (by kernel_rfl) rfl #[.pointer (some ⟨g10, 0, none⟩), .agg #[.int .i64 f.f0, .int .i64 f.f1, .int .i64 f.f2, .slice A3 f.f3.length c3], .int .i64 (f.f3.length : Int)] (by rfl) rfl rfl (by simp only [List.map_toArray, List.map_cons, List.map_nil]; rfl) ?_
  with_reducible refine (rhead_any f.f0 f.f1 f.f2 A3 f.f3.length c3 (f.f3.length : Int) HH.out.drew.at_ HLb.out.1 (by have := HLb.out; omega)).mono ?_
  rintro e_ wv ⟨rfl, hW⟩
  refine ⟨_, rfl, ?_⟩
  have HHv := Az.mk (HH.out.drew.trans hW)
  have B1v := Az.mk (hW.kp.blk (show (World.drew _).heap[g1]? = _ from BK1.out) NE1.out (by simp))
  clear hW
  have HIv : Az (SInv (headS fs) e2 0 (q + 1) (rheadL l f.f0 f.f1 f.f2 f.f3.length 0) (rheadE l f.f0 f.f1 f.f2 f.f3.length 0)) := ⟨HI.out.next (by rw [(head_ref _ _ _ _ _).1]; unfold headS; rw [HGf.out]) (fun h => by rw [(head_ref _ _ _ _ _).1] at h; have h2 := (head_ref l f.f0 f.f1 f.f2 f.f3.length).2 h; have h3 := headE_ok h; rw [h2]; unfold headS; rw [HGf.out]; exact ⟨rfl, by have := HLb.out; omega, h3.2⟩)⟩
  refine hK.out _ _ ?_
  clear hK K
  refine norm_ (a' := ?_) ?_ ?_
  rotate_left
  ·show Act.put _ (some 60) _ = _
   simp only [Act.put, pn, i64_w, i32_w]
   rfl
  refine done_ (done_of HT_.out (by kernel_rfl)) ?_
  clear HT_ HW_ hHeld u0 u1 x0 x1 x2 x3 p3
  go_wp2_with fail
  go_roundw
  case rel => exact ⟨q + 1, _, _, by omega, by go_num, HHv, HIv, B1v⟩
  case measure => simp [intOf]; omega
end Go.Proofs.YteonppgdmhakoaaDoor.PC
namespace Go.Proofs.YteonppgdmhakoaaDoor.PC
open Go.RowKit Go.Proofs.YteonppgdmhakoaaDoorW.PrintWords Go.Proofs.YteonppgdmhakoaaDoorW.PrintLast Go.Proofs.YteonppgdmhakoaaDoorW.PrintMore
attribute [local go_sem] max2_int min2_int max_two min_two max_three min_three max_four min_four
set_option linter.unusedVariables false
set_option linter.unusedSimpArgs false
def fugueref00_CopyInts.l0 : Nat → List Int → List Int → Int → Option (List Int)
 | 0, _, _, _ => none
 | k + 1, x0, x3, x4 => if x4 < (x0.length : Int) then (if 0 ≤ x4 then (if x3.length < 17592186044416 then (fugueref00_CopyInts.l0 k x0 (x3 ++ [rd x0 x4]) (wrap64 (x4 + 1))) else (none)) else (none)) else (some x3)
def fugueref00_CopyInts.f (k : Nat) (l0 : List Int) : Option (List Int) := fugueref00_CopyInts.l0 k l0 ([] : List Int) 0
set_option maxHeartbeats 8000000 in
set_option maxRecDepth 100000 in
theorem fugueref00_CopyInts.calls (k : Nat) (A0 : Option Addr) (c0 : Nat) (l0 : List Int) (r : List Int) (w : World) (hr0 : Kd.C (Kd.int .i64) w A0 l0.length l0) (hc0 : l0.length ≤ c0) (h : fugueref00_CopyInts.f k l0 = some r) :
  Calls Tryd.prog 110 #[.slice A0 l0.length c0] w fun e w' => ∃ v0_ : Value, e = .returned (v0_) ∧ Kd.R (Kd.int .i64) 3 w' w.heap.size (fun _ => True) v0_ r ∧ Below w.heap.size w w' := by
 have HR0 := Az.mk hr0
 have HC0 := Az.mk hc0
 clear hr0 hc0
 have HB := Az.mk (Below.refl w.heap.size w)
 have H : (fugueref00_CopyInts.l0 k l0 ([] : List Int) 0) = some r := h
 clear h
 have H' := Az.mk H
 clear H
 go_enter Tryd.func110, Tryd.ntmps110
 go_wp2
 go_loopg [3, 4] k (fun kq v3 v4 w' => ∃ (x3_1 : List Int) (x4_1 : Int), v4 = .int .i64 x4_1 ∧ Az (fugueref00_CopyInts.l0 kq l0 x3_1 x4_1 = some r) ∧ Az (kq ≤ k) ∧ Az (Kd.R (Kd.int .i64) 3 w' w.heap.size (fun _ => True) v3 x3_1) ∧ Az (Below w.heap.size w w'))
 case atStart => exact ⟨(([] : List Int)), (0), (by first | rfl | (simp; done) | (simp [*]; done)), H', ⟨Nat.le_refl _⟩, ⟨by first | exact Kd.R_nil _ _ _ _ _ | exact Kd.N_nil _ _ _ _ _ | exact Kd.V_nil _ _ _ _ _ | exact Kd.Q_nil _ _ _ _ _ | exact Kd.S_nil _ _ _ _ _⟩, ⟨by repeat (first | (with_reducible first | exact HB.out | apply lZ | apply pZ | apply dZ) | exact HB.out)⟩⟩
 case round =>
  clear H'
  try clear c1
  obtain ⟨x3_1, x4_1, rfl, HA, HK1, HO_3, HB⟩ := hrel
  cases gk with
  | zero => exact absurd HA.out (by simp [fugueref00_CopyInts.l0])
  | succ k1 =>
   have H := HA.out
   clear HA
   simp only [fugueref00_CopyInts.l0] at H
   by_cases c2 : x4_1 < (l0.length : Int)
   ·rw [if_pos c2] at H
    have c2b0 : decide (x4_1 < (l0.length : Int)) = true := decide_eq_true c2
    clear c2
    by_cases c3 : 0 ≤ x4_1
    ·rw [if_pos c3] at H
     have c3b0 : decide (0 ≤ x4_1) = true := decide_eq_true c3
     clear c3
     by_cases c4 : x3_1.length < 17592186044416
     ·rw [if_pos c4] at H
      have LMc4 := Az.mk c4
      clear c4
      obtain ⟨y407, hy407⟩ : ∃ y_ : List Int, y_ = (x3_1 ++ [rd l0 x4_1]) := ⟨_, rfl⟩
      replace H : (fugueref00_CopyInts.l0 k1 l0 y407 (wrap64 (x4_1 + 1))) = some r := by first | (rw [hy407]; with_reducible exact H) | (have H2_ := (Option.bind_some _ _).symm.trans H; rw [hy407]; with_reducible exact H2_) | (have H2_ := (Option.bind_some _ _).symm.trans H; with_reducible exact H2_) | with_reducible exact H | (rw [hy407]; exact H) | exact H
      have Ny407 := Az.mk hy407
      clear hy407
      have H' := Az.mk H
      clear H
      have p406 : 0 ≤ (x4_1 : Int) := of_decide_eq_true (by first | (with_reducible assumption) | assumption)
      have q406 : x4_1 < (l0.length : Int) := of_decide_eq_true (by first | (with_reducible assumption) | assumption)
      obtain ⟨ad406, e406, hx406_0⟩ := Kd.at_int HR0.out x4_1 p406 q406
      cases e406
      replace hx406_0 := (HB.out.cell (World.block_lt_of_cell? w _ hx406_0)).trans hx406_0
      replace p406 := eq_true p406
      replace q406 := eq_true q406
      go_wp2_with (first | ((with_reducible refine gate_builtin (b := .append) (xs := #[.tmp 11, .tmp 16]) rfl ?_); at_builtin; refine Kd.R_append (Kd.int .i64) (w0 := w) w.heap.size rfl (.tmp 11) (.tmp 16) 48 3 (.int .i64 0) 8 rfl Tryd.underlying48 info3 rfl (by decide) (by omega) u3 x3_1 (rd l0 x4_1) [.int .i64 (rd l0 x4_1)] (fun _ => True) (fun _ => False) rfl rfl ?aP (fun _ hk => hk.elim) ?aF ?aO ?aB ?aS ?aL ?_; (case aP => exact rfl); (case aB => exact (by repeat (first | (with_reducible first | exact HB.out | apply lZ | apply pZ | apply dZ) | exact HB.out))); (case aF => exact (fun _ _ => trivial)); (case aO => exact (by (with_reducible repeat (first | apply Kd.R_alloc | apply Kd.R_drewN | apply Kd.R_drew)); exact HO_3.out)); (case aS => exact (zZ (by repeat (first | (with_reducible first | exact HB.out | apply lZ | apply pZ | apply dZ) | exact HB.out)))); (case aL => have := LMc4.out; omega); intro v408 w5 ho hb hg hat; rw [← Ny407.out] at ho; replace HB := Az.mk (hb); have HO409 := Az.mk (ho); clear HO_3; clear ho hb hg hat))
      go_roundg k1
      case measure => have := HK1.out; omega
      case rel => exact ⟨(y407), (wrap64 (x4_1 + 1)), (by first | rfl | (simp; done) | (simp [*]; done)), H', ⟨by have := HK1.out; omega⟩, ⟨by (with_reducible repeat (first | apply Kd.R_alloc | apply Kd.R_drewN | apply Kd.R_drew)); exact HO409.out⟩, ⟨by repeat (first | (with_reducible first | exact HB.out | apply lZ | apply pZ | apply dZ) | exact HB.out)⟩⟩
     ·rw [if_neg c4] at H
      exact absurd H (by simp)
    ·rw [if_neg c3] at H
     exact absurd H (by simp)
   ·rw [if_neg c2] at H
    have c2b0 : decide (x4_1 < (l0.length : Int)) = false := decide_eq_false c2
    clear c2
    obtain rfl := Option.some.inj H
    go_wp2
    go_ret
    exact ⟨_, by first | rfl | (simp [errW_none, errW_some] <;> rfl) | (simp [*, errW_none, errW_some] <;> rfl), by (with_reducible repeat (first | apply Kd.R_alloc | apply Kd.R_drewN | apply Kd.R_drew)); exact HO_3.out, by repeat (first | (with_reducible first | exact HB.out | apply lZ | apply pZ | apply dZ) | exact HB.out)⟩
def fugueref00_CopyInstr.f (k : Nat) (a0_0 : Int) (a0_1 : Int) (a0_2 : Int) (a0_3 : Int) (a0_4 : Int) (l0_5 : List Int) (l0_6 : List Int) : Option (Int × Int × Int × Int × Int × List Int × List Int) := (fugueref00_CopyInts.f k l0_5).bind fun t412 => ((fugueref00_CopyInts.f k l0_6).bind fun t415 => (some (a0_0, a0_1, a0_2, a0_3, a0_4, t412, t415)))
set_option maxHeartbeats 8000000 in
set_option maxRecDepth 100000 in
theorem fugueref00_CopyInstr.calls (k : Nat) (a0_0 : Int) (a0_1 : Int) (a0_2 : Int) (a0_3 : Int) (a0_4 : Int) (A0_5 : Option Addr) (c0_5 : Nat) (l0_5 : List Int) (A0_6 : Option Addr) (c0_6 : Nat) (l0_6 : List Int) (r1 : Int) (r2 : Int) (r3 : Int) (r4 : Int) (r5 : Int) (r6 : List Int) (r7 : List Int) (w : World) (hr0_5 : Kd.C (Kd.int .i64) w A0_5 l0_5.length l0_5) (hc0_5 : l0_5.length ≤ c0_5) (hr0_6 : Kd.C (Kd.int .i64) w A0_6 l0_6.length l0_6) (hc0_6 : l0_6.length ≤ c0_6) (h : fugueref00_CopyInstr.f k a0_0 a0_1 a0_2 a0_3 a0_4 l0_5 l0_6 = some (r1, r2, r3, r4, r5, r6, r7)) :
  Calls Tryd.prog 108 #[.agg #[.int .i64 a0_0, .int .i64 a0_1, .int .i64 a0_2, .int .i64 a0_3, .int .i64 a0_4, .slice A0_5 l0_5.length c0_5, .slice A0_6 l0_6.length c0_6]] w fun e w' => ∃ v5_ v6_ : Value, e = .returned (.agg #[.int .i64 r1, .int .i64 r2, .int .i64 r3, .int .i64 r4, .int .i64 r5, v5_, v6_]) ∧ Kd.R (Kd.int .i64) 3 w' w.heap.size (fun k_ => some k_ ≠ (v6_ : Value).ownBlock) v5_ r6 ∧ Kd.R (Kd.int .i64) 3 w' w.heap.size (fun k_ => some k_ ≠ (v5_ : Value).ownBlock) v6_ r7 ∧ Below w.heap.size w w' := by
 have hu50 := Tryd.underlying50
 have HR0_5 := Az.mk hr0_5
 have HC0_5 := Az.mk hc0_5
 clear hr0_5 hc0_5
 have HR0_6 := Az.mk hr0_6
 have HC0_6 := Az.mk hc0_6
 clear hr0_6 hc0_6
 have HB := Az.mk (Below.refl w.heap.size w)
 have H : ((fugueref00_CopyInts.f k l0_5).bind fun t412 => ((fugueref00_CopyInts.f k l0_6).bind fun t415 => (some (a0_0, a0_1, a0_2, a0_3, a0_4, t412, t415)))) = some (r1, r2, r3, r4, r5, r6, r7) := h
 clear h
 replace H := Option.bind_eq_some_iff.mp H
 obtain ⟨t412, A20, H⟩ := H
 replace H : ((fugueref00_CopyInts.f k l0_6).bind fun t415 => (some (a0_0, a0_1, a0_2, a0_3, a0_4, t412, t415))) = some (r1, r2, r3, r4, r5, r6, r7) := H
 have A2 := Az.mk A20
 clear A20
 replace H := Option.bind_eq_some_iff.mp H
 obtain ⟨t415, A30, H⟩ := H
 replace H : (some (a0_0, a0_1, a0_2, a0_3, a0_4, t412, t415)) = some (r1, r2, r3, r4, r5, r6, r7) := H
 have A3 := Az.mk A30
 clear A30
 simp only [Option.some.injEq, Prod.mk.injEq] at H
 obtain ⟨rfl, rfl, rfl, rfl, rfl, rfl, rfl⟩ := H
 go_enter Tryd.func108, Tryd.ntmps108
 go_wp2_with (first | ((with_reducible refine gate_dst (N := 1) rfl ?_); refine box_event ?hg (N := 1) ?hd (cs := #[.int .i64 a0_0, .int .i64 a0_1, .int .i64 a0_2, .int .i64 a0_3, .int .i64 a0_4, .slice A0_5 l0_5.length c0_5, .slice A0_6 l0_6.length c0_6]) (t := 50) ?hr ?_; (case hd => rfl); (case hg => rfl); (case hr => first | (go_simp; done) | (go_simp; rfl)); intro gb410 hg w4 hbox hb; have n0_ := Az.mk (tZ (by repeat (first | (with_reducible first | exact HB.out | apply lZ | apply pZ | apply dZ) | exact HB.out)) hb); have n1_ := Az.mk (hbox); have n2_ := Az.mk ((by rw [hg]; exact (zZ (by repeat (first | (with_reducible first | exact HB.out | apply lZ | apply pZ | apply dZ) | exact HB.out))) : w.heap.size ≤ gb410)); have n3_ := Az.mk ((by rw [hg]; exact (zZ (by repeat (first | (with_reducible first | exact HB.out | apply lZ | apply pZ | apply dZ) | exact HB.out))) : w.heap.size ≤ gb410)); clear HB; have HB := n0_; have BK410 := n1_; have GW410 := n2_; have GE410 := n3_; clear n0_ n1_ n2_ n3_; clear hb hbox hg) | ((with_reducible refine gate_dst (N := 2) rfl ?_); refine box_event ?hg (N := 2) ?hd (cs := #[.int .i64 0, .int .i64 0, .int .i64 0, .int .i64 0, .int .i64 0, .slice none 0 0, .slice none 0 0]) (t := 50) ?hr ?_; (case hd => rfl); (case hg => rfl); (case hr => first | (go_simp; done) | (go_simp; rfl)); intro gb411 hg w5 hbox hb; have n0_ := Az.mk (kZ (g := gb410) (o := .cells #[.int .i64 a0_0, .int .i64 a0_1, .int .i64 a0_2, .int .i64 a0_3, .int .i64 a0_4, .slice A0_5 l0_5.length c0_5, .slice A0_6 l0_6.length c0_6] 50 (0, 0)) (by (with_reducible repeat (first | refine blk_drewN ?_ _ | refine wZ ?_ | refine aZ ?_ _)); exact BK410.out) hb); have n1_ := Az.mk (tZ (by repeat (first | (with_reducible first | exact HB.out | apply lZ | apply pZ | apply dZ | refine sZ ?_ GE410.out) | exact HB.out)) hb); have n2_ := Az.mk (hbox); have n3_ := Az.mk ((by rw [hg]; exact (zZ (by repeat (first | (with_reducible first | exact HB.out | apply lZ | apply pZ | apply dZ | refine sZ ?_ GE410.out) | exact HB.out))) : w.heap.size ≤ gb411)); have n4_ := Az.mk ((by rw [hg]; exact (zZ (by repeat (first | (with_reducible first | exact HB.out | apply lZ | apply pZ | apply dZ | refine sZ ?_ GE410.out) | exact HB.out))) : w.heap.size ≤ gb411)); have n5_ := Az.mk ((by rw [hg]; exact Nat.ne_of_lt (blk_lt (g := gb410) (o := .cells #[.int .i64 a0_0, .int .i64 a0_1, .int .i64 a0_2, .int .i64 a0_3, .int .i64 a0_4, .slice A0_5 l0_5.length c0_5, .slice A0_6 l0_6.length c0_6] 50 (0, 0)) (by (with_reducible repeat (first | refine blk_drewN ?_ _ | refine wZ ?_ | refine aZ ?_ _)); exact BK410.out)) : gb410 ≠ gb411)); have n6_ := Az.mk ((by rw [hg]; exact Nat.ne_of_gt (blk_lt (g := gb410) (o := .cells #[.int .i64 a0_0, .int .i64 a0_1, .int .i64 a0_2, .int .i64 a0_3, .int .i64 a0_4, .slice A0_5 l0_5.length c0_5, .slice A0_6 l0_6.length c0_6] 50 (0, 0)) (by (with_reducible repeat (first | refine blk_drewN ?_ _ | refine wZ ?_ | refine aZ ?_ _)); exact BK410.out)) : gb411 ≠ gb410)); clear BK410; clear HB; have BK410 := n0_; have HB := n1_; have BK411 := n2_; have GW411 := n3_; have GE411 := n4_; have NB410_411 := n5_; have NB411_410 := n6_; clear n0_ n1_ n2_ n3_ n4_ n5_ n6_; clear hb hbox hg; have hnb6 := NB410_411.out; have hnc6 := NB411_410.out; have hcz7_0 : w5.cell? ⟨gb410, 0, none⟩ = some (.int .i64 a0_0) := (bZ BK410.out 0).trans rfl; have hcz7_1 : w5.cell? ⟨gb410, 1, none⟩ = some (.int .i64 a0_1) := (bZ BK410.out 1).trans rfl; have hcz7_2 : w5.cell? ⟨gb410, 2, none⟩ = some (.int .i64 a0_2) := (bZ BK410.out 2).trans rfl; have hcz7_3 : w5.cell? ⟨gb410, 3, none⟩ = some (.int .i64 a0_3) := (bZ BK410.out 3).trans rfl; have hcz7_4 : w5.cell? ⟨gb410, 4, none⟩ = some (.int .i64 a0_4) := (bZ BK410.out 4).trans rfl; have hcz7_5 : w5.cell? ⟨gb410, 5, none⟩ = some (.slice A0_5 l0_5.length c0_5) := (bZ BK410.out 5).trans rfl; have hcz7_6 : w5.cell? ⟨gb410, 6, none⟩ = some (.slice A0_6 l0_6.length c0_6) := (bZ BK410.out 6).trans rfl; have hfz7_0 := fZ BK410.out 0; have hfz7_1 := fZ BK410.out 1; have hfz7_2 := fZ BK410.out 2; have hfz7_3 := fZ BK410.out 3; have hfz7_4 := fZ BK410.out 4; have hfz7_5 := fZ BK410.out 5; have hfz7_6 := fZ BK410.out 6) | ((with_reducible refine gate_callee (f := 110) rfl ?_); refine goesL_ (some 5) rfl rfl Tryd.func110 (by kernel_rfl) rfl #[.slice A0_5 l0_5.length c0_5] rfl (by (try simp only [List.map_toArray, List.map_cons, List.map_nil]); first | done | rfl | (simp only [List.length_drop, List.length_take]; rfl)) ?_; (with_reducible refine (fugueref00_CopyInts.calls k _ _ l0_5 t412 _ ?side1 ?side2 A2.out).mono ?_); (case side1 => repeat (first | exact (Kd.C_below HR0_5.out HB.out) | (with_reducible refine Kd.C_alloc ?_ _) | (with_reducible refine Kd.C_drewN ?_ _) | (with_reducible refine Kd.C_drew ?_))); (case side2 => exact HC0_5.out); rintro e w8 ⟨v413, rfl, ho0, hb⟩; refine ⟨_, rfl, ?_⟩; have HO414 := Az.mk (Kd.R_lower ho0 (zZ (by repeat (first | (with_reducible first | exact HB.out | apply lZ | apply pZ | apply dZ | refine sZ ?_ GE410.out | refine sZ ?_ GE411.out) | exact HB.out)))); replace BK410 := Az.mk (kZ (g := gb410) (o := .cells #[.int .i64 a0_0, .int .i64 a0_1, .int .i64 a0_2, .int .i64 a0_3, .int .i64 a0_4, .slice A0_5 l0_5.length c0_5, .slice A0_6 l0_6.length c0_6] 50 (0, 0)) (by (with_reducible repeat (first | refine blk_drewN ?_ _ | refine wZ ?_ | refine aZ ?_ _)); exact BK410.out) hb); replace BK411 := Az.mk (kZ (g := gb411) (o := .cells #[.int .i64 0, .int .i64 0, .int .i64 0, .int .i64 0, .int .i64 0, .slice none 0 0, .slice none 0 0] 50 (0, 0)) (by (with_reducible repeat (first | refine blk_drewN ?_ _ | refine wZ ?_ | refine aZ ?_ _)); exact BK411.out) hb); replace HB := Az.mk (tZ (by repeat (first | (with_reducible first | exact HB.out | apply lZ | apply pZ | apply dZ | refine sZ ?_ GE410.out | refine sZ ?_ GE411.out) | exact HB.out)) hb); (try clear hb); (try clear hb2); (try clear hk); (try clear hi); (try clear ho0); obtain ⟨Ao9, co9, eo9⟩ := Kd.R_slice HO414.out; subst eo9; have hcz10_0 : w8.cell? ⟨gb410, 0, none⟩ = some (.int .i64 a0_0) := (bZ BK410.out 0).trans rfl; have hcz10_1 : w8.cell? ⟨gb410, 1, none⟩ = some (.int .i64 a0_1) := (bZ BK410.out 1).trans rfl; have hcz10_2 : w8.cell? ⟨gb410, 2, none⟩ = some (.int .i64 a0_2) := (bZ BK410.out 2).trans rfl; have hcz10_3 : w8.cell? ⟨gb410, 3, none⟩ = some (.int .i64 a0_3) := (bZ BK410.out 3).trans rfl; have hcz10_4 : w8.cell? ⟨gb410, 4, none⟩ = some (.int .i64 a0_4) := (bZ BK410.out 4).trans rfl; have hcz10_5 : w8.cell? ⟨gb410, 5, none⟩ = some (.slice A0_5 l0_5.length c0_5) := (bZ BK410.out 5).trans rfl; have hcz10_6 : w8.cell? ⟨gb410, 6, none⟩ = some (.slice A0_6 l0_6.length c0_6) := (bZ BK410.out 6).trans rfl; have hfz10_0 := fZ BK410.out 0; have hfz10_1 := fZ BK410.out 1; have hfz10_2 := fZ BK410.out 2; have hfz10_3 := fZ BK410.out 3; have hfz10_4 := fZ BK410.out 4; have hfz10_5 := fZ BK410.out 5; have hfz10_6 := fZ BK410.out 6) | ((with_reducible refine gate_callee (f := 110) rfl ?_); refine goesL_ (some 9) rfl rfl Tryd.func110 (by kernel_rfl) rfl #[.slice A0_6 l0_6.length c0_6] rfl (by (try simp only [List.map_toArray, List.map_cons, List.map_nil]); first | done | rfl | (simp only [List.length_drop, List.length_take]; rfl)) ?_; (with_reducible refine (fugueref00_CopyInts.calls k _ _ l0_6 t415 _ ?side1 ?side2 A3.out).mono ?_); (case side1 => exact Kd.C_below HR0_6.out (by repeat (first | (with_reducible first | exact HB.out | apply lZ | apply pZ | apply dZ | refine sZ ?_ GE410.out | refine sZ ?_ GE411.out) | exact HB.out))); (case side2 => exact HC0_6.out); rintro e w11 ⟨v416, rfl, ho0, hb⟩; refine ⟨_, rfl, ?_⟩; have n0_ := Az.mk (Kd.R_elder' (by (with_reducible repeat (first | apply Kd.R_alloc | apply Kd.R_drewN | apply Kd.R_drew)); exact (Kd.R_mono (Kd.R_far (p := ⟨gb410, 5, none⟩) (Kd.R_types HO414.out BK410.out (by decide)) (fun _ hk => hk.2) (.slice Ao9 t412.length co9)) (fun _ h_ => h_.1))) (Kd.R_base ho0) hb); have n1_ := Az.mk (Kd.R_lower (Kd.R_new' ho0 (Kd.R_lt (by (with_reducible repeat (first | apply Kd.R_alloc | apply Kd.R_drewN | apply Kd.R_drew)); exact (Kd.R_mono (Kd.R_far (p := ⟨gb410, 5, none⟩) (Kd.R_types HO414.out BK410.out (by decide)) (fun _ hk => hk.2) (.slice Ao9 t412.length co9)) (fun _ h_ => h_.1))))) (zZ (by repeat (first | (with_reducible first | exact HB.out | apply lZ | apply pZ | apply dZ | refine sZ ?_ GE410.out | refine sZ ?_ GE411.out) | exact HB.out)))); have n2_ := Az.mk (kZ (g := gb410) (o := .cells #[.int .i64 a0_0, .int .i64 a0_1, .int .i64 a0_2, .int .i64 a0_3, .int .i64 a0_4, .slice Ao9 t412.length co9, .slice A0_6 l0_6.length c0_6] 50 (0, 0)) (by (with_reducible repeat (first | refine blk_drewN ?_ _ | refine wZ ?_ | refine aZ ?_ _)); refine blk_put (cs := #[.int .i64 a0_0, .int .i64 a0_1, .int .i64 a0_2, .int .i64 a0_3, .int .i64 a0_4, .slice A0_5 l0_5.length c0_5, .slice A0_6 l0_6.length c0_6]) ?_ 5 _ rfl; (with_reducible repeat (first | refine blk_drewN ?_ _ | refine wZ ?_ | refine aZ ?_ _)); exact BK410.out) hb); have n3_ := Az.mk (kZ (g := gb411) (o := .cells #[.int .i64 0, .int .i64 0, .int .i64 0, .int .i64 0, .int .i64 0, .slice none 0 0, .slice none 0 0] 50 (0, 0)) (by (with_reducible repeat (first | refine blk_drewN ?_ _ | refine wZ ?_ | refine aZ ?_ _)); refine blk_far ?_ NB411_410.out _; (with_reducible repeat (first | refine blk_drewN ?_ _ | refine wZ ?_ | refine aZ ?_ _)); exact BK411.out) hb); have n4_ := Az.mk (tZ (by repeat (first | (with_reducible first | exact HB.out | apply lZ | apply pZ | apply dZ | refine sZ ?_ GE410.out | refine sZ ?_ GE411.out) | exact HB.out)) hb); clear HO414; clear BK410; clear BK411; clear HB; have HO414 := n0_; have HO417 := n1_; have BK410 := n2_; have BK411 := n3_; have HB := n4_; clear n0_ n1_ n2_ n3_ n4_; (try clear hb); (try clear hb2); (try clear hk); (try clear hi); (try clear ho0); obtain ⟨Ao12, co12, eo12⟩ := Kd.R_slice HO417.out; subst eo12; have hcz13_0 : w11.cell? ⟨gb410, 0, none⟩ = some (.int .i64 a0_0) := (bZ BK410.out 0).trans rfl; have hcz13_1 : w11.cell? ⟨gb410, 1, none⟩ = some (.int .i64 a0_1) := (bZ BK410.out 1).trans rfl; have hcz13_2 : w11.cell? ⟨gb410, 2, none⟩ = some (.int .i64 a0_2) := (bZ BK410.out 2).trans rfl; have hcz13_3 : w11.cell? ⟨gb410, 3, none⟩ = some (.int .i64 a0_3) := (bZ BK410.out 3).trans rfl; have hcz13_4 : w11.cell? ⟨gb410, 4, none⟩ = some (.int .i64 a0_4) := (bZ BK410.out 4).trans rfl; have hcz13_5 : w11.cell? ⟨gb410, 5, none⟩ = some (.slice Ao9 t412.length co9) := (bZ BK410.out 5).trans rfl; have hcz13_6 : w11.cell? ⟨gb410, 6, none⟩ = some (.slice A0_6 l0_6.length c0_6) := (bZ BK410.out 6).trans rfl; have hfz13_0 := fZ BK410.out 0; have hfz13_1 := fZ BK410.out 1; have hfz13_2 := fZ BK410.out 2; have hfz13_3 := fZ BK410.out 3; have hfz13_4 := fZ BK410.out 4; have hfz13_5 := fZ BK410.out 5; have hfz13_6 := fZ BK410.out 6; have hcz14_0 : w11.cell? ⟨gb411, 0, none⟩ = some (.int .i64 0) := (bZ BK411.out 0).trans rfl; have hcz14_1 : w11.cell? ⟨gb411, 1, none⟩ = some (.int .i64 0) := (bZ BK411.out 1).trans rfl; have hcz14_2 : w11.cell? ⟨gb411, 2, none⟩ = some (.int .i64 0) := (bZ BK411.out 2).trans rfl; have hcz14_3 : w11.cell? ⟨gb411, 3, none⟩ = some (.int .i64 0) := (bZ BK411.out 3).trans rfl; have hcz14_4 : w11.cell? ⟨gb411, 4, none⟩ = some (.int .i64 0) := (bZ BK411.out 4).trans rfl; have hcz14_5 : w11.cell? ⟨gb411, 5, none⟩ = some (.slice none 0 0) := (bZ BK411.out 5).trans rfl; have hcz14_6 : w11.cell? ⟨gb411, 6, none⟩ = some (.slice none 0 0) := (bZ BK411.out 6).trans rfl; have hfz14_0 := fZ BK411.out 0; have hfz14_1 := fZ BK411.out 1; have hfz14_2 := fZ BK411.out 2; have hfz14_3 := fZ BK411.out 3; have hfz14_4 := fZ BK411.out 4; have hfz14_5 := fZ BK411.out 5; have hfz14_6 := fZ BK411.out 6))
 refine bodyPost_ret (results_cell_row rfl _ _ gb411 50 #[.int .i64 a0_0, .int .i64 a0_1, .int .i64 a0_2, .int .i64 a0_3, .int .i64 a0_4, .slice Ao9 t412.length co9, .slice Ao12 t415.length co12] (0, 0) _ rfl (by (with_reducible repeat (first | refine blk_drewN ?_ _ | refine wZ ?_ | refine aZ ?_ _)); refine blk_put (cs := #[.int .i64 a0_0, .int .i64 a0_1, .int .i64 a0_2, .int .i64 a0_3, .int .i64 a0_4, .slice Ao9 t412.length co9, .slice none 0 0]) ?_ 6 _ rfl; (with_reducible repeat (first | refine blk_drewN ?_ _ | refine wZ ?_ | refine aZ ?_ _)); refine blk_put (cs := #[.int .i64 a0_0, .int .i64 a0_1, .int .i64 a0_2, .int .i64 a0_3, .int .i64 a0_4, .slice none 0 0, .slice none 0 0]) ?_ 5 _ rfl; (with_reducible repeat (first | refine blk_drewN ?_ _ | refine wZ ?_ | refine aZ ?_ _)); refine blk_put (cs := #[.int .i64 a0_0, .int .i64 a0_1, .int .i64 a0_2, .int .i64 a0_3, .int .i64 0, .slice none 0 0, .slice none 0 0]) ?_ 4 _ rfl; (with_reducible repeat (first | refine blk_drewN ?_ _ | refine wZ ?_ | refine aZ ?_ _)); refine blk_put (cs := #[.int .i64 a0_0, .int .i64 a0_1, .int .i64 a0_2, .int .i64 0, .int .i64 0, .slice none 0 0, .slice none 0 0]) ?_ 3 _ rfl; (with_reducible repeat (first | refine blk_drewN ?_ _ | refine wZ ?_ | refine aZ ?_ _)); refine blk_put (cs := #[.int .i64 a0_0, .int .i64 a0_1, .int .i64 0, .int .i64 0, .int .i64 0, .slice none 0 0, .slice none 0 0]) ?_ 2 _ rfl; (with_reducible repeat (first | refine blk_drewN ?_ _ | refine wZ ?_ | refine aZ ?_ _)); refine blk_put (cs := #[.int .i64 a0_0, .int .i64 0, .int .i64 0, .int .i64 0, .int .i64 0, .slice none 0 0, .slice none 0 0]) ?_ 1 _ rfl; (with_reducible repeat (first | refine blk_drewN ?_ _ | refine wZ ?_ | refine aZ ?_ _)); refine blk_put (cs := #[.int .i64 0, .int .i64 0, .int .i64 0, .int .i64 0, .int .i64 0, .slice none 0 0, .slice none 0 0]) ?_ 0 _ rfl; (with_reducible repeat (first | refine blk_drewN ?_ _ | refine wZ ?_ | refine aZ ?_ _)); refine blk_far ?_ NB411_410.out _; (with_reducible repeat (first | refine blk_drewN ?_ _ | refine wZ ?_ | refine aZ ?_ _)); exact BK411.out) Tryd.underlying50 rfl (by kernel_rfl)) rfl ?_
 exact ⟨_, _, by first | rfl | (simp [errW_none, errW_some] <;> rfl) | (simp [*, errW_none, errW_some] <;> rfl), by (with_reducible repeat (first | apply Kd.R_alloc | apply Kd.R_drewN | apply Kd.R_drew)); exact Kd.R_mono (Kd.R_far (p := ⟨gb411, 6, none⟩) (Kd.R_far (p := ⟨gb411, 5, none⟩) (Kd.R_far (p := ⟨gb411, 4, none⟩) (Kd.R_far (p := ⟨gb411, 3, none⟩) (Kd.R_far (p := ⟨gb411, 2, none⟩) (Kd.R_far (p := ⟨gb411, 1, none⟩) (Kd.R_far (p := ⟨gb411, 0, none⟩) (Kd.R_far (p := ⟨gb410, 6, none⟩) (Kd.R_types (Kd.R_types HO414.out BK410.out (by decide)) BK411.out (by decide)) (fun _ hk => hk.1.2) (.slice Ao12 t415.length co12)) (fun _ hk => hk.2) (.int .i64 a0_0)) (fun _ hk => hk.2) (.int .i64 a0_1)) (fun _ hk => hk.2) (.int .i64 a0_2)) (fun _ hk => hk.2) (.int .i64 a0_3)) (fun _ hk => hk.2) (.int .i64 a0_4)) (fun _ hk => hk.2) (.slice Ao9 t412.length co9)) (fun _ hk => hk.2) (.slice Ao12 t415.length co12)) (fun _ hk => hk.1.1.2), by (with_reducible repeat (first | apply Kd.R_alloc | apply Kd.R_drewN | apply Kd.R_drew)); exact Kd.R_mono (Kd.R_far (p := ⟨gb411, 6, none⟩) (Kd.R_far (p := ⟨gb411, 5, none⟩) (Kd.R_far (p := ⟨gb411, 4, none⟩) (Kd.R_far (p := ⟨gb411, 3, none⟩) (Kd.R_far (p := ⟨gb411, 2, none⟩) (Kd.R_far (p := ⟨gb411, 1, none⟩) (Kd.R_far (p := ⟨gb411, 0, none⟩) (Kd.R_far (p := ⟨gb410, 6, none⟩) (Kd.R_types (Kd.R_types HO417.out BK410.out (by decide)) BK411.out (by decide)) (fun _ hk => hk.1.2) (.slice Ao12 t415.length co12)) (fun _ hk => hk.2) (.int .i64 a0_0)) (fun _ hk => hk.2) (.int .i64 a0_1)) (fun _ hk => hk.2) (.int .i64 a0_2)) (fun _ hk => hk.2) (.int .i64 a0_3)) (fun _ hk => hk.2) (.int .i64 a0_4)) (fun _ hk => hk.2) (.slice Ao9 t412.length co9)) (fun _ hk => hk.2) (.slice Ao12 t415.length co12)) (fun _ hk => hk.1.1.2), by repeat (first | (with_reducible first | exact HB.out | apply lZ | apply pZ | apply dZ | refine sZ ?_ GE410.out | refine sZ ?_ GE411.out) | exact HB.out)⟩
def fugueref00_CopyCode.l0 : Nat → List (S50) → List (S50) → Int → Option ((List (S50)))
 | 0, _, _, _ => none
 | k + 1, x0, x3, x4 => if x4 < (x0.length : Int) then (if 0 ≤ x4 then ((fugueref00_CopyInstr.f k ((rd_T50 x0 x4).f0) ((rd_T50 x0 x4).f1) ((rd_T50 x0 x4).f2) ((rd_T50 x0 x4).f3) ((rd_T50 x0 x4).f4) ((rd_T50 x0 x4).f5) ((rd_T50 x0 x4).f6)).bind fun bt419 => (if x3.length < 1599289640401 then (fugueref00_CopyCode.l0 k x0 (x3 ++ [(⟨bt419.1, bt419.2.1, bt419.2.2.1, bt419.2.2.2.1, bt419.2.2.2.2.1, bt419.2.2.2.2.2.1, bt419.2.2.2.2.2.2⟩ : S50)]) (wrap64 (x4 + 1))) else (none))) else (none)) else (some x3)
def fugueref00_CopyCode.f (k : Nat) (l0 : List (S50)) : Option ((List (S50))) := fugueref00_CopyCode.l0 k l0 ([] : List (S50)) 0
set_option maxHeartbeats 8000000 in
set_option maxRecDepth 100000 in
theorem fugueref00_CopyCode.calls (k : Nat) (A0 : Option Addr) (c0 : Nat) (l0 : List (S50)) (r : List (S50)) (w : World) (hr0 : Kd.C k50 w A0 l0.length l0) (hc0 : l0.length ≤ c0) (h : fugueref00_CopyCode.f k l0 = some r) :
  Calls Tryd.prog 96 #[.slice A0 l0.length c0] w fun e w' => ∃ v0_ : Value, e = .returned (v0_) ∧ Kd.S k50 50 w' w.heap.size (fun _ => True) v0_ r ∧ Below w.heap.size w w' := by
 have hu50 := Tryd.underlying50
 have HR0 := Az.mk hr0
 have HC0 := Az.mk hc0
 clear hr0 hc0
 have HB := Az.mk (Below.refl w.heap.size w)
 have H : (fugueref00_CopyCode.l0 k l0 ([] : List (S50)) 0) = some r := h
 clear h
 have H' := Az.mk H
 clear H
 go_enter Tryd.func96, Tryd.ntmps96
 go_wp2
 go_loopg [3, 4] k (fun kq v3 v4 w' => ∃ (x3_1 : List (S50)) (x4_1 : Int), v4 = .int .i64 x4_1 ∧ Az (fugueref00_CopyCode.l0 kq l0 x3_1 x4_1 = some r) ∧ Az (kq ≤ k) ∧ Az (Kd.S k50 50 w' w.heap.size (fun _ => True) v3 x3_1) ∧ Az (Below w.heap.size w w'))
 case atStart => exact ⟨(([] : List (S50))), (0), (by first | rfl | (simp; done) | (simp [*]; done)), H', ⟨Nat.le_refl _⟩, ⟨by first | exact Kd.S_nil _ _ _ _ _ | exact Kd.N_nil _ _ _ _ _ | exact Kd.V_nil _ _ _ _ _ | exact Kd.Q_nil _ _ _ _ _ | exact Kd.R_nil _ _ _ _ _⟩, ⟨by repeat (first | (with_reducible first | exact HB.out | apply lZ | apply pZ | apply dZ) | exact HB.out)⟩⟩
 case round =>
  clear H'
  obtain ⟨x3_1, x4_1, rfl, HA, HK1, HO_3, HB⟩ := hrel
  cases gk with
  | zero => exact absurd HA.out (by simp [fugueref00_CopyCode.l0])
  | succ k1 =>
   have H := HA.out
   clear HA
   simp only [fugueref00_CopyCode.l0] at H
   by_cases c2 : x4_1 < (l0.length : Int)
   ·rw [if_pos c2] at H
    have c2b0 : decide (x4_1 < (l0.length : Int)) = true := decide_eq_true c2
    clear c2
    by_cases c3 : 0 ≤ x4_1
    ·rw [if_pos c3] at H
     have c3b0 : decide (0 ≤ x4_1) = true := decide_eq_true c3
     clear c3
     replace H := Option.bind_eq_some_iff.mp H
     obtain ⟨⟨t419, t420, t421, t422, t423, t424, t427⟩, A40, H⟩ := H
     replace H : (if x3_1.length < 1599289640401 then (fugueref00_CopyCode.l0 k1 l0 (x3_1 ++ [(⟨t419, t420, t421, t422, t423, t424, t427⟩ : S50)]) (wrap64 (x4_1 + 1))) else (none)) = some r := H
     have A4 := Az.mk A40
     clear A40
     by_cases c5 : x3_1.length < 1599289640401
     ·rw [if_pos c5] at H
      have LMc5 := Az.mk c5
      clear c5
      obtain ⟨y431, hy431⟩ : ∃ y_ : List (S50), y_ = (x3_1 ++ [(⟨t419, t420, t421, t422, t423, t424, t427⟩ : S50)]) := ⟨_, rfl⟩
      replace H : (fugueref00_CopyCode.l0 k1 l0 y431 (wrap64 (x4_1 + 1))) = some r := by first | (rw [hy431]; with_reducible exact H) | (have H2_ := (Option.bind_some _ _).symm.trans H; rw [hy431]; with_reducible exact H2_) | (have H2_ := (Option.bind_some _ _).symm.trans H; with_reducible exact H2_) | with_reducible exact H | (rw [hy431]; exact H) | exact H
      have Ny431 := Az.mk hy431
      clear hy431
      have H' := Az.mk H
      clear H
      have p418 : 0 ≤ (x4_1 : Int) := of_decide_eq_true (by first | (with_reducible assumption) | assumption)
      have q418 : x4_1 < (l0.length : Int) := of_decide_eq_true (by first | (with_reducible assumption) | assumption)
      obtain ⟨ad418, A418_5, c418_5, A418_6, c418_6, e418, hx418_0, hx418_1, hx418_2, hx418_3, hx418_4, hx418_5, hx418_6, hl418_5, hi418_5, hl418_6, hi418_6⟩ := at_T50 HR0.out x4_1 p418 q418
      cases e418
      replace hx418_0 := (HB.out.cell (World.block_lt_of_cell? w _ hx418_0)).trans hx418_0
      replace hx418_1 := (HB.out.cell (World.block_lt_of_cell? w _ hx418_1)).trans hx418_1
      replace hx418_2 := (HB.out.cell (World.block_lt_of_cell? w _ hx418_2)).trans hx418_2
      replace hx418_3 := (HB.out.cell (World.block_lt_of_cell? w _ hx418_3)).trans hx418_3
      replace hx418_4 := (HB.out.cell (World.block_lt_of_cell? w _ hx418_4)).trans hx418_4
      replace hx418_5 := (HB.out.cell (World.block_lt_of_cell? w _ hx418_5)).trans hx418_5
      replace hx418_6 := (HB.out.cell (World.block_lt_of_cell? w _ hx418_6)).trans hx418_6
      have HR418_5 := Az.mk hi418_5
      have HC418_5 := Az.mk hl418_5
      clear hi418_5 hl418_5
      have HR418_6 := Az.mk hi418_6
      have HC418_6 := Az.mk hl418_6
      clear hi418_6 hl418_6
      replace p418 := eq_true p418
      replace q418 := eq_true q418
      go_wp2_with (first | ((with_reducible refine gate_callee (f := 108) rfl ?_); refine goesL_ (some 16) rfl rfl Tryd.func108 (by kernel_rfl) rfl #[.agg #[.int .i64 ((rd_T50 l0 x4_1).f0), .int .i64 ((rd_T50 l0 x4_1).f1), .int .i64 ((rd_T50 l0 x4_1).f2), .int .i64 ((rd_T50 l0 x4_1).f3), .int .i64 ((rd_T50 l0 x4_1).f4), .slice A418_5 ((rd_T50 l0 x4_1).f5).length c418_5, .slice A418_6 ((rd_T50 l0 x4_1).f6).length c418_6]] rfl (by (try simp only [List.map_toArray, List.map_cons, List.map_nil]); first | done | rfl | (simp only [List.length_drop, List.length_take]; rfl)) ?_; (with_reducible refine (fugueref00_CopyInstr.calls k1 ((rd_T50 l0 x4_1).f0) ((rd_T50 l0 x4_1).f1) ((rd_T50 l0 x4_1).f2) ((rd_T50 l0 x4_1).f3) ((rd_T50 l0 x4_1).f4) _ _ ((rd_T50 l0 x4_1).f5) _ _ ((rd_T50 l0 x4_1).f6) t419 t420 t421 t422 t423 t424 t427 _ ?side1 ?side2 ?side3 ?side4 A4.out).mono ?_); (case side1 => repeat (first | exact (Kd.C_below HR418_5.out HB.out) | (with_reducible refine Kd.C_alloc ?_ _) | (with_reducible refine Kd.C_drewN ?_ _) | (with_reducible refine Kd.C_drew ?_))); (case side2 => exact HC418_5.out); (case side3 => repeat (first | exact (Kd.C_below HR418_6.out HB.out) | (with_reducible refine Kd.C_alloc ?_ _) | (with_reducible refine Kd.C_drewN ?_ _) | (with_reducible refine Kd.C_drew ?_))); (case side4 => exact HC418_6.out); rintro e w6 ⟨v425, v428, rfl, ho0, ho1, hb⟩; refine ⟨_, rfl, ?_⟩; replace HO_3 := Az.mk (Kd.S_mono (Kd.S_told (Kd.S_told (Kd.S_old (by (with_reducible repeat (first | apply Kd.S_alloc | apply Kd.S_drewN | apply Kd.S_drew)); exact HO_3.out) hb) (Kd.R_base ho0)) (Kd.R_base ho1)) (fun _ h_ => h_.1)); have HO426 := Az.mk (Kd.R_lower ho0 (zZ (by repeat (first | (with_reducible first | exact HB.out | apply lZ | apply pZ | apply dZ) | exact HB.out)))); have HO429 := Az.mk (Kd.R_lower ho1 (zZ (by repeat (first | (with_reducible first | exact HB.out | apply lZ | apply pZ | apply dZ) | exact HB.out)))); replace HB := Az.mk (tZ (by repeat (first | (with_reducible first | exact HB.out | apply lZ | apply pZ | apply dZ) | exact HB.out)) hb); (try clear hb); (try clear hb2); (try clear hk); (try clear hi); (try clear ho0); (try clear ho1)) | ((with_reducible refine gate_dst (N := 5) rfl ?_); refine box_event ?hg (N := 5) ?hd (cs := #[.int .i64 0, .int .i64 0, .int .i64 0, .int .i64 0, .int .i64 0, .slice none 0 0, .slice none 0 0]) (t := 50) ?hr ?_; (case hd => rfl); (case hg => rfl); (case hr => first | (go_simp; done) | (go_simp; rfl)); intro gb430 hg w7 hbox hb; have n0_ := Az.mk (Kd.S_below (Kd.S_elderB (by (with_reducible repeat (first | apply Kd.S_alloc | apply Kd.S_drewN | apply Kd.S_drew)); exact HO_3.out) gb430 (Nat.le_of_eq hg.symm)) hb); have n1_ := Az.mk (Kd.R_below (by (with_reducible repeat (first | apply Kd.R_alloc | apply Kd.R_drewN | apply Kd.R_drew)); exact HO426.out) hb); have n2_ := Az.mk (Kd.R_below (by (with_reducible repeat (first | apply Kd.R_alloc | apply Kd.R_drewN | apply Kd.R_drew)); exact HO429.out) hb); have n3_ := Az.mk (tZ (by repeat (first | (with_reducible first | exact HB.out | apply lZ | apply pZ | apply dZ) | exact HB.out)) hb); have n4_ := Az.mk (hbox); have n5_ := Az.mk ((by rw [hg]; exact (zZ (by repeat (first | (with_reducible first | exact HB.out | apply lZ | apply pZ | apply dZ) | exact HB.out))) : w.heap.size ≤ gb430)); have n6_ := Az.mk ((by rw [hg]; exact (zZ (by repeat (first | (with_reducible first | exact HB.out | apply lZ | apply pZ | apply dZ) | exact HB.out))) : w.heap.size ≤ gb430)); clear HO_3; clear HO426; clear HO429; clear HB; have HO_3 := n0_; have HO426 := n1_; have HO429 := n2_; have HB := n3_; have BK430 := n4_; have GW430 := n5_; have GE430 := n6_; clear n0_ n1_ n2_ n3_ n4_ n5_ n6_; clear hb hbox hg; have hcz8_0 : w7.cell? ⟨gb430, 0, none⟩ = some (.int .i64 0) := (bZ BK430.out 0).trans rfl; have hcz8_1 : w7.cell? ⟨gb430, 1, none⟩ = some (.int .i64 0) := (bZ BK430.out 1).trans rfl; have hcz8_2 : w7.cell? ⟨gb430, 2, none⟩ = some (.int .i64 0) := (bZ BK430.out 2).trans rfl; have hcz8_3 : w7.cell? ⟨gb430, 3, none⟩ = some (.int .i64 0) := (bZ BK430.out 3).trans rfl; have hcz8_4 : w7.cell? ⟨gb430, 4, none⟩ = some (.int .i64 0) := (bZ BK430.out 4).trans rfl; have hcz8_5 : w7.cell? ⟨gb430, 5, none⟩ = some (.slice none 0 0) := (bZ BK430.out 5).trans rfl; have hcz8_6 : w7.cell? ⟨gb430, 6, none⟩ = some (.slice none 0 0) := (bZ BK430.out 6).trans rfl; have hfz8_0 := fZ BK430.out 0; have hfz8_1 := fZ BK430.out 1; have hfz8_2 := fZ BK430.out 2; have hfz8_3 := fZ BK430.out 3; have hfz8_4 := fZ BK430.out 4; have hfz8_5 := fZ BK430.out 5; have hfz8_6 := fZ BK430.out 6; obtain ⟨Ao9, co9, eo9⟩ := Kd.R_slice HO426.out; subst eo9; obtain ⟨Ao10, co10, eo10⟩ := Kd.R_slice HO429.out; subst eo10) | ((with_reducible refine gate_store (t := 50) (p := 5) rfl ?_); refine store_event (t := 50) (p := 5) (v := ?vo_w11) (w1 := (((((((w7.setCell ⟨gb430, 0, none⟩ (.int .i64 t419)).setCell ⟨gb430, 1, none⟩ (.int .i64 t420)).setCell ⟨gb430, 2, none⟩ (.int .i64 t421)).setCell ⟨gb430, 3, none⟩ (.int .i64 t422)).setCell ⟨gb430, 4, none⟩ (.int .i64 t423)).setCell ⟨gb430, 5, none⟩ (.slice Ao9 t424.length co9)).setCell ⟨gb430, 6, none⟩ (.slice Ao10 t427.length co10))) ?hg ?ho ?hn ?hr ?_; (case ho => rfl); (case hg => rfl); (case hn => rfl); (case hr => first | (go_simp; done) | (go_simp; rfl)); intro w11 hw; have n0_ : Az (Kd.S k50 50 w11 w.heap.size (fun k_ => some k_ ≠ (.slice Ao9 t424.length co9 : Value).ownBlock ∧ some k_ ≠ (.slice Ao10 t427.length co10 : Value).ownBlock ∧ k_ ≠ gb430) u3 x3_1) := ⟨(by rw [hw]; exact (by (with_reducible repeat (first | apply Kd.S_alloc | apply Kd.S_drewN | apply Kd.S_drew)); exact Kd.S_mono (Kd.S_far (p := ⟨gb430, 6, none⟩) (Kd.S_far (p := ⟨gb430, 5, none⟩) (Kd.S_far (p := ⟨gb430, 4, none⟩) (Kd.S_far (p := ⟨gb430, 3, none⟩) (Kd.S_far (p := ⟨gb430, 2, none⟩) (Kd.S_far (p := ⟨gb430, 1, none⟩) (Kd.S_far (p := ⟨gb430, 0, none⟩) (Kd.S_mono HO_3.out (fun k_ hk => (⟨hk, hk.2⟩ : _ ∧ k_ ≠ gb430))) (fun _ hk => hk.2) (.int .i64 t419)) (fun _ hk => hk.2) (.int .i64 t420)) (fun _ hk => hk.2) (.int .i64 t421)) (fun _ hk => hk.2) (.int .i64 t422)) (fun _ hk => hk.2) (.int .i64 t423)) (fun _ hk => hk.2) (.slice Ao9 t424.length co9)) (fun _ hk => hk.2) (.slice Ao10 t427.length co10)) (fun _ hk => ⟨hk.1.1.1.2, ⟨hk.1.1.2, hk.1.2⟩⟩)))⟩; have n1_ : Az (Kd.R (Kd.int .i64) 3 w11 w.heap.size (fun k_ => some k_ ≠ (.slice Ao10 t427.length co10 : Value).ownBlock) (.slice Ao9 t424.length co9) t424) := ⟨(by rw [hw]; exact (by (with_reducible repeat (first | apply Kd.R_alloc | apply Kd.R_drewN | apply Kd.R_drew)); exact Kd.R_mono (Kd.R_far (p := ⟨gb430, 6, none⟩) (Kd.R_far (p := ⟨gb430, 5, none⟩) (Kd.R_far (p := ⟨gb430, 4, none⟩) (Kd.R_far (p := ⟨gb430, 3, none⟩) (Kd.R_far (p := ⟨gb430, 2, none⟩) (Kd.R_far (p := ⟨gb430, 1, none⟩) (Kd.R_far (p := ⟨gb430, 0, none⟩) (Kd.R_types HO426.out BK430.out (by decide)) (fun _ hk => hk.2) (.int .i64 t419)) (fun _ hk => hk.2) (.int .i64 t420)) (fun _ hk => hk.2) (.int .i64 t421)) (fun _ hk => hk.2) (.int .i64 t422)) (fun _ hk => hk.2) (.int .i64 t423)) (fun _ hk => hk.2) (.slice Ao9 t424.length co9)) (fun _ hk => hk.2) (.slice Ao10 t427.length co10)) (fun _ hk => hk.1)))⟩; have n2_ : Az (Kd.R (Kd.int .i64) 3 w11 w.heap.size (fun k_ => some k_ ≠ (.slice Ao9 t424.length co9 : Value).ownBlock) (.slice Ao10 t427.length co10) t427) := ⟨(by rw [hw]; exact (by (with_reducible repeat (first | apply Kd.R_alloc | apply Kd.R_drewN | apply Kd.R_drew)); exact Kd.R_mono (Kd.R_far (p := ⟨gb430, 6, none⟩) (Kd.R_far (p := ⟨gb430, 5, none⟩) (Kd.R_far (p := ⟨gb430, 4, none⟩) (Kd.R_far (p := ⟨gb430, 3, none⟩) (Kd.R_far (p := ⟨gb430, 2, none⟩) (Kd.R_far (p := ⟨gb430, 1, none⟩) (Kd.R_far (p := ⟨gb430, 0, none⟩) (Kd.R_types HO429.out BK430.out (by decide)) (fun _ hk => hk.2) (.int .i64 t419)) (fun _ hk => hk.2) (.int .i64 t420)) (fun _ hk => hk.2) (.int .i64 t421)) (fun _ hk => hk.2) (.int .i64 t422)) (fun _ hk => hk.2) (.int .i64 t423)) (fun _ hk => hk.2) (.slice Ao9 t424.length co9)) (fun _ hk => hk.2) (.slice Ao10 t427.length co10)) (fun _ hk => hk.1)))⟩; have n3_ : Az (w11.heap[gb430]? = some (.cells #[.int .i64 t419, .int .i64 t420, .int .i64 t421, .int .i64 t422, .int .i64 t423, .slice Ao9 t424.length co9, .slice Ao10 t427.length co10] 50 (0, 0))) := ⟨(by rw [hw]; exact (by (with_reducible repeat (first | refine blk_drewN ?_ _ | refine wZ ?_ | refine aZ ?_ _)); refine blk_put (cs := #[.int .i64 t419, .int .i64 t420, .int .i64 t421, .int .i64 t422, .int .i64 t423, .slice Ao9 t424.length co9, .slice none 0 0]) ?_ 6 _ rfl; (with_reducible repeat (first | refine blk_drewN ?_ _ | refine wZ ?_ | refine aZ ?_ _)); refine blk_put (cs := #[.int .i64 t419, .int .i64 t420, .int .i64 t421, .int .i64 t422, .int .i64 t423, .slice none 0 0, .slice none 0 0]) ?_ 5 _ rfl; (with_reducible repeat (first | refine blk_drewN ?_ _ | refine wZ ?_ | refine aZ ?_ _)); refine blk_put (cs := #[.int .i64 t419, .int .i64 t420, .int .i64 t421, .int .i64 t422, .int .i64 0, .slice none 0 0, .slice none 0 0]) ?_ 4 _ rfl; (with_reducible repeat (first | refine blk_drewN ?_ _ | refine wZ ?_ | refine aZ ?_ _)); refine blk_put (cs := #[.int .i64 t419, .int .i64 t420, .int .i64 t421, .int .i64 0, .int .i64 0, .slice none 0 0, .slice none 0 0]) ?_ 3 _ rfl; (with_reducible repeat (first | refine blk_drewN ?_ _ | refine wZ ?_ | refine aZ ?_ _)); refine blk_put (cs := #[.int .i64 t419, .int .i64 t420, .int .i64 0, .int .i64 0, .int .i64 0, .slice none 0 0, .slice none 0 0]) ?_ 2 _ rfl; (with_reducible repeat (first | refine blk_drewN ?_ _ | refine wZ ?_ | refine aZ ?_ _)); refine blk_put (cs := #[.int .i64 t419, .int .i64 0, .int .i64 0, .int .i64 0, .int .i64 0, .slice none 0 0, .slice none 0 0]) ?_ 1 _ rfl; (with_reducible repeat (first | refine blk_drewN ?_ _ | refine wZ ?_ | refine aZ ?_ _)); refine blk_put (cs := #[.int .i64 0, .int .i64 0, .int .i64 0, .int .i64 0, .int .i64 0, .slice none 0 0, .slice none 0 0]) ?_ 0 _ rfl; (with_reducible repeat (first | refine blk_drewN ?_ _ | refine wZ ?_ | refine aZ ?_ _)); exact BK430.out))⟩; have n4_ : Az (Below w.heap.size w w11) := ⟨(by rw [hw]; exact (by repeat (first | (with_reducible first | exact HB.out | apply lZ | apply pZ | apply dZ | refine sZ ?_ GE430.out) | exact HB.out)))⟩; clear hw; clear HO_3; clear HO426; clear HO429; clear BK430; clear HB; have HO_3 := n0_; have HO426 := n1_; have HO429 := n2_; have BK430 := n3_; have HB := n4_; clear n0_ n1_ n2_ n3_ n4_; have hcz12_0 : w11.cell? ⟨gb430, 0, none⟩ = some (.int .i64 t419) := (bZ BK430.out 0).trans rfl; have hcz12_1 : w11.cell? ⟨gb430, 1, none⟩ = some (.int .i64 t420) := (bZ BK430.out 1).trans rfl; have hcz12_2 : w11.cell? ⟨gb430, 2, none⟩ = some (.int .i64 t421) := (bZ BK430.out 2).trans rfl; have hcz12_3 : w11.cell? ⟨gb430, 3, none⟩ = some (.int .i64 t422) := (bZ BK430.out 3).trans rfl; have hcz12_4 : w11.cell? ⟨gb430, 4, none⟩ = some (.int .i64 t423) := (bZ BK430.out 4).trans rfl; have hcz12_5 : w11.cell? ⟨gb430, 5, none⟩ = some (.slice Ao9 t424.length co9) := (bZ BK430.out 5).trans rfl; have hcz12_6 : w11.cell? ⟨gb430, 6, none⟩ = some (.slice Ao10 t427.length co10) := (bZ BK430.out 6).trans rfl; have hfz12_0 := fZ BK430.out 0; have hfz12_1 := fZ BK430.out 1; have hfz12_2 := fZ BK430.out 2; have hfz12_3 := fZ BK430.out 3; have hfz12_4 := fZ BK430.out 4; have hfz12_5 := fZ BK430.out 5; have hfz12_6 := fZ BK430.out 6) | ((with_reducible refine gate_builtin (b := .append) (xs := #[.tmp 17, .tmp 19]) rfl ?_); at_builtin; refine Kd.S_append k50 (w0 := w) w.heap.size rfl (.tmp 17) (.tmp 19) 44 50 (.agg #[(.int .i64 0), (.int .i64 0), (.int .i64 0), (.int .i64 0), (.int .i64 0), (.slice none 0 0), (.slice none 0 0)]) 88 rfl Tryd.underlying44 info50 rfl (by decide) (by omega) u3 x3_1 (⟨t419, t420, t421, t422, t423, t424, t427⟩ : S50) [.int .i64 t419, .int .i64 t420, .int .i64 t421, .int .i64 t422, .int .i64 t423, .slice Ao9 t424.length co9, .slice Ao10 t427.length co10] (fun k_ => k_ ≠ gb430) (fun k_ => some k_ = (.slice Ao9 t424.length co9 : Value).ownBlock ∨ some k_ = (.slice Ao10 t427.length co10 : Value).ownBlock) rfl rfl ?aP (fun k_ hk_ => hk_.elim (fun h_ => ((Kd.R_mono (ok' := fun k_ => ((fun k_ => k_ ≠ gb430)) k_ ∧ some k_ ≠ (u3 : Value).ownBlock) (Kd.R_types (Kd.R_apart' (HO426.out) (Kd.S_typed HO_3.out) (by decide)) BK430.out (by decide)) (fun k_ hk => ⟨hk.2, hk.1.2⟩))).1 k_ h_.symm) (fun h_ => ((Kd.R_mono (ok' := fun k_ => ((fun k_ => k_ ≠ gb430)) k_ ∧ some k_ ≠ (u3 : Value).ownBlock) (Kd.R_types (Kd.R_apart' (HO429.out) (Kd.S_typed HO_3.out) (by decide)) BK430.out (by decide)) (fun k_ hk => ⟨hk.2, hk.1.2⟩))).1 k_ h_.symm)) ?aF ?aO ?aB ?aS ?aL ?_; (case aP => exact k50_mkM _ _ _ (⟨t419, t420, t421, t422, t423, t424, t427⟩ : S50) (Kd.R_mono (Kd.R_tight rfl (Kd.R_mono (ok' := fun k_ => ((fun k_ => k_ ≠ gb430)) k_ ∧ some k_ ≠ (u3 : Value).ownBlock) (Kd.R_types (Kd.R_apart' (HO426.out) (Kd.S_typed HO_3.out) (by decide)) BK430.out (by decide)) (fun k_ hk => ⟨hk.2, hk.1.2⟩))) (fun _ h_ => Or.inl h_)) (Kd.R_mono (Kd.R_tight rfl (Kd.R_mono (ok' := fun k_ => ((fun k_ => k_ ≠ gb430)) k_ ∧ some k_ ≠ (u3 : Value).ownBlock) (Kd.R_types (Kd.R_apart' (HO429.out) (Kd.S_typed HO_3.out) (by decide)) BK430.out (by decide)) (fun k_ hk => ⟨hk.2, hk.1.2⟩))) (fun _ h_ => Or.inr (h_)))); (case aB => exact (by repeat (first | (with_reducible first | exact HB.out | apply lZ | apply pZ | apply dZ | refine sZ ?_ GE430.out) | exact HB.out))); (case aF => exact (fun k_ hk => Kd.freshB (g := gb430) (o := .cells #[.int .i64 t419, .int .i64 t420, .int .i64 t421, .int .i64 t422, .int .i64 t423, .slice Ao9 t424.length co9, .slice Ao10 t427.length co10] 50 (0, 0)) (by (with_reducible repeat (first | refine blk_drewN ?_ _ | refine wZ ?_ | refine aZ ?_ _)); exact BK430.out) k_ hk)); (case aO => exact (by (with_reducible repeat (first | apply Kd.S_alloc | apply Kd.S_drewN | apply Kd.S_drew)); exact Kd.S_mono HO_3.out (fun k_ hk => ⟨hk.2.2, fun e_ => e_.elim (fun h_ => hk.1 h_) (fun h_ => hk.2.1 h_)⟩))); (case aS => exact (zZ (by repeat (first | (with_reducible first | exact HB.out | apply lZ | apply pZ | apply dZ | refine sZ ?_ GE430.out) | exact HB.out)))); (case aL => have := LMc5.out; omega); intro v432 w13 ho hb hg hat; rw [← Ny431.out] at ho; replace BK430 := Az.mk (blk_grown (g := gb430) (o := .cells #[.int .i64 t419, .int .i64 t420, .int .i64 t421, .int .i64 t422, .int .i64 t423, .slice Ao9 t424.length co9, .slice Ao10 t427.length co10] 50 (0, 0)) (by (with_reducible repeat (first | refine blk_drewN ?_ _ | refine wZ ?_ | refine aZ ?_ _)); exact BK430.out) hg (Kd.S_away HO_3.out (fun _ hk => hk.2.2))); replace HB := Az.mk (hb); have HO433 := Az.mk (ho); clear HO_3 HO426 HO429; clear ho hb hg hat))
      go_roundg k1
      case measure => have := HK1.out; omega
      case rel => exact ⟨(y431), (wrap64 (x4_1 + 1)), (by first | rfl | (simp; done) | (simp [*]; done)), H', ⟨by have := HK1.out; omega⟩, ⟨by (with_reducible repeat (first | apply Kd.S_alloc | apply Kd.S_drewN | apply Kd.S_drew)); exact Kd.S_mono HO433.out (fun _ hk => trivial)⟩, ⟨by repeat (first | (with_reducible first | exact HB.out | apply lZ | apply pZ | apply dZ | refine sZ ?_ GE430.out) | exact HB.out)⟩⟩
     ·rw [if_neg c5] at H
      exact absurd H (by simp)
    ·rw [if_neg c3] at H
     exact absurd H (by simp)
   ·rw [if_neg c2] at H
    have c2b0 : decide (x4_1 < (l0.length : Int)) = false := decide_eq_false c2
    clear c2
    obtain rfl := Option.some.inj H
    go_wp2
    go_ret
    exact ⟨_, by first | rfl | (simp [errW_none, errW_some] <;> rfl) | (simp [*, errW_none, errW_some] <;> rfl), by (with_reducible repeat (first | apply Kd.S_alloc | apply Kd.S_drewN | apply Kd.S_drew)); exact HO_3.out, by repeat (first | (with_reducible first | exact HB.out | apply lZ | apply pZ | apply dZ) | exact HB.out)⟩
def fugueref00_CopyFunc.f (k : Nat) (a0_0 : Int) (a0_1 : Int) (a0_2 : Int) (l0_3 : List (S50)) : Option (Int × Int × Int × (List (S50))) := (fugueref00_CopyCode.f k l0_3).bind fun t436 => (some (a0_0, a0_1, a0_2, t436))
set_option maxHeartbeats 8000000 in
set_option maxRecDepth 100000 in
theorem fugueref00_CopyFunc.calls (k : Nat) (a0_0 : Int) (a0_1 : Int) (a0_2 : Int) (A0_3 : Option Addr) (c0_3 : Nat) (l0_3 : List (S50)) (r1 : Int) (r2 : Int) (r3 : Int) (r4 : List (S50)) (w : World) (hr0_3 : Kd.C k50 w A0_3 l0_3.length l0_3) (hc0_3 : l0_3.length ≤ c0_3) (h : fugueref00_CopyFunc.f k a0_0 a0_1 a0_2 l0_3 = some (r1, r2, r3, r4)) :
  Calls Tryd.prog 67 #[.agg #[.int .i64 a0_0, .int .i64 a0_1, .int .i64 a0_2, .slice A0_3 l0_3.length c0_3]] w fun e w' => ∃ v3_ : Value, e = .returned (.agg #[.int .i64 r1, .int .i64 r2, .int .i64 r3, v3_]) ∧ Kd.S k50 50 w' w.heap.size (fun _ => True) v3_ r4 ∧ Below w.heap.size w w' := by
 have hu46 := Tryd.underlying46
 have HR0_3 := Az.mk hr0_3
 have HC0_3 := Az.mk hc0_3
 clear hr0_3 hc0_3
 have HB := Az.mk (Below.refl w.heap.size w)
 have H : ((fugueref00_CopyCode.f k l0_3).bind fun t436 => (some (a0_0, a0_1, a0_2, t436))) = some (r1, r2, r3, r4) := h
 clear h
 replace H := Option.bind_eq_some_iff.mp H
 obtain ⟨t436, A20, H⟩ := H
 replace H : (some (a0_0, a0_1, a0_2, t436)) = some (r1, r2, r3, r4) := H
 have A2 := Az.mk A20
 clear A20
 simp only [Option.some.injEq, Prod.mk.injEq] at H
 obtain ⟨rfl, rfl, rfl, rfl⟩ := H
 go_enter Tryd.func67, Tryd.ntmps67
 go_wp2_with (first | ((with_reducible refine gate_dst (N := 1) rfl ?_); refine box_event ?hg (N := 1) ?hd (cs := #[.int .i64 a0_0, .int .i64 a0_1, .int .i64 a0_2, .slice A0_3 l0_3.length c0_3]) (t := 46) ?hr ?_; (case hd => rfl); (case hg => rfl); (case hr => first | (go_simp; done) | (go_simp; rfl)); intro gb434 hg w3 hbox hb; have n0_ := Az.mk (tZ (by repeat (first | (with_reducible first | exact HB.out | apply lZ | apply pZ | apply dZ) | exact HB.out)) hb); have n1_ := Az.mk (hbox); have n2_ := Az.mk ((by rw [hg]; exact (zZ (by repeat (first | (with_reducible first | exact HB.out | apply lZ | apply pZ | apply dZ) | exact HB.out))) : w.heap.size ≤ gb434)); have n3_ := Az.mk ((by rw [hg]; exact (zZ (by repeat (first | (with_reducible first | exact HB.out | apply lZ | apply pZ | apply dZ) | exact HB.out))) : w.heap.size ≤ gb434)); clear HB; have HB := n0_; have BK434 := n1_; have GW434 := n2_; have GE434 := n3_; clear n0_ n1_ n2_ n3_; clear hb hbox hg) | ((with_reducible refine gate_dst (N := 2) rfl ?_); refine box_event ?hg (N := 2) ?hd (cs := #[.int .i64 0, .int .i64 0, .int .i64 0, .slice none 0 0]) (t := 46) ?hr ?_; (case hd => rfl); (case hg => rfl); (case hr => first | (go_simp; done) | (go_simp; rfl)); intro gb435 hg w4 hbox hb; have n0_ := Az.mk (kZ (g := gb434) (o := .cells #[.int .i64 a0_0, .int .i64 a0_1, .int .i64 a0_2, .slice A0_3 l0_3.length c0_3] 46 (0, 0)) (by (with_reducible repeat (first | refine blk_drewN ?_ _ | refine wZ ?_ | refine aZ ?_ _)); exact BK434.out) hb); have n1_ := Az.mk (tZ (by repeat (first | (with_reducible first | exact HB.out | apply lZ | apply pZ | apply dZ | refine sZ ?_ GE434.out) | exact HB.out)) hb); have n2_ := Az.mk (hbox); have n3_ := Az.mk ((by rw [hg]; exact (zZ (by repeat (first | (with_reducible first | exact HB.out | apply lZ | apply pZ | apply dZ | refine sZ ?_ GE434.out) | exact HB.out))) : w.heap.size ≤ gb435)); have n4_ := Az.mk ((by rw [hg]; exact (zZ (by repeat (first | (with_reducible first | exact HB.out | apply lZ | apply pZ | apply dZ | refine sZ ?_ GE434.out) | exact HB.out))) : w.heap.size ≤ gb435)); have n5_ := Az.mk ((by rw [hg]; exact Nat.ne_of_lt (blk_lt (g := gb434) (o := .cells #[.int .i64 a0_0, .int .i64 a0_1, .int .i64 a0_2, .slice A0_3 l0_3.length c0_3] 46 (0, 0)) (by (with_reducible repeat (first | refine blk_drewN ?_ _ | refine wZ ?_ | refine aZ ?_ _)); exact BK434.out)) : gb434 ≠ gb435)); have n6_ := Az.mk ((by rw [hg]; exact Nat.ne_of_gt (blk_lt (g := gb434) (o := .cells #[.int .i64 a0_0, .int .i64 a0_1, .int .i64 a0_2, .slice A0_3 l0_3.length c0_3] 46 (0, 0)) (by (with_reducible repeat (first | refine blk_drewN ?_ _ | refine wZ ?_ | refine aZ ?_ _)); exact BK434.out)) : gb435 ≠ gb434)); clear BK434; clear HB; have BK434 := n0_; have HB := n1_; have BK435 := n2_; have GW435 := n3_; have GE435 := n4_; have NB434_435 := n5_; have NB435_434 := n6_; clear n0_ n1_ n2_ n3_ n4_ n5_ n6_; clear hb hbox hg; have hnb5 := NB434_435.out; have hnc5 := NB435_434.out; have hcz6_0 : w4.cell? ⟨gb434, 0, none⟩ = some (.int .i64 a0_0) := (bZ BK434.out 0).trans rfl; have hcz6_1 : w4.cell? ⟨gb434, 1, none⟩ = some (.int .i64 a0_1) := (bZ BK434.out 1).trans rfl; have hcz6_2 : w4.cell? ⟨gb434, 2, none⟩ = some (.int .i64 a0_2) := (bZ BK434.out 2).trans rfl; have hcz6_3 : w4.cell? ⟨gb434, 3, none⟩ = some (.slice A0_3 l0_3.length c0_3) := (bZ BK434.out 3).trans rfl; have hfz6_0 := fZ BK434.out 0; have hfz6_1 := fZ BK434.out 1; have hfz6_2 := fZ BK434.out 2; have hfz6_3 := fZ BK434.out 3) | ((with_reducible refine gate_callee (f := 96) rfl ?_); refine goesL_ (some 5) rfl rfl Tryd.func96 (by kernel_rfl) rfl #[.slice A0_3 l0_3.length c0_3] rfl (by (try simp only [List.map_toArray, List.map_cons, List.map_nil]); first | done | rfl | (simp only [List.length_drop, List.length_take]; rfl)) ?_; (with_reducible refine (fugueref00_CopyCode.calls k _ _ l0_3 t436 _ ?side1 ?side2 A2.out).mono ?_); (case side1 => repeat (first | exact (Kd.C_below HR0_3.out HB.out) | (with_reducible refine Kd.C_alloc ?_ _) | (with_reducible refine Kd.C_drewN ?_ _) | (with_reducible refine Kd.C_drew ?_))); (case side2 => exact HC0_3.out); rintro e w7 ⟨v437, rfl, ho0, hb⟩; refine ⟨_, rfl, ?_⟩; have HO438 := Az.mk (Kd.S_lower ho0 (zZ (by repeat (first | (with_reducible first | exact HB.out | apply lZ | apply pZ | apply dZ | refine sZ ?_ GE434.out | refine sZ ?_ GE435.out) | exact HB.out)))); replace BK434 := Az.mk (kZ (g := gb434) (o := .cells #[.int .i64 a0_0, .int .i64 a0_1, .int .i64 a0_2, .slice A0_3 l0_3.length c0_3] 46 (0, 0)) (by (with_reducible repeat (first | refine blk_drewN ?_ _ | refine wZ ?_ | refine aZ ?_ _)); exact BK434.out) hb); replace BK435 := Az.mk (kZ (g := gb435) (o := .cells #[.int .i64 0, .int .i64 0, .int .i64 0, .slice none 0 0] 46 (0, 0)) (by (with_reducible repeat (first | refine blk_drewN ?_ _ | refine wZ ?_ | refine aZ ?_ _)); exact BK435.out) hb); replace HB := Az.mk (tZ (by repeat (first | (with_reducible first | exact HB.out | apply lZ | apply pZ | apply dZ | refine sZ ?_ GE434.out | refine sZ ?_ GE435.out) | exact HB.out)) hb); (try clear hb); (try clear hb2); (try clear hk); (try clear hi); (try clear ho0); obtain ⟨Ao8, co8, eo8⟩ := Kd.S_slice HO438.out; subst eo8; have hcz9_0 : w7.cell? ⟨gb434, 0, none⟩ = some (.int .i64 a0_0) := (bZ BK434.out 0).trans rfl; have hcz9_1 : w7.cell? ⟨gb434, 1, none⟩ = some (.int .i64 a0_1) := (bZ BK434.out 1).trans rfl; have hcz9_2 : w7.cell? ⟨gb434, 2, none⟩ = some (.int .i64 a0_2) := (bZ BK434.out 2).trans rfl; have hcz9_3 : w7.cell? ⟨gb434, 3, none⟩ = some (.slice A0_3 l0_3.length c0_3) := (bZ BK434.out 3).trans rfl; have hfz9_0 := fZ BK434.out 0; have hfz9_1 := fZ BK434.out 1; have hfz9_2 := fZ BK434.out 2; have hfz9_3 := fZ BK434.out 3; have hcz10_0 : w7.cell? ⟨gb435, 0, none⟩ = some (.int .i64 0) := (bZ BK435.out 0).trans rfl; have hcz10_1 : w7.cell? ⟨gb435, 1, none⟩ = some (.int .i64 0) := (bZ BK435.out 1).trans rfl; have hcz10_2 : w7.cell? ⟨gb435, 2, none⟩ = some (.int .i64 0) := (bZ BK435.out 2).trans rfl; have hcz10_3 : w7.cell? ⟨gb435, 3, none⟩ = some (.slice none 0 0) := (bZ BK435.out 3).trans rfl; have hfz10_0 := fZ BK435.out 0; have hfz10_1 := fZ BK435.out 1; have hfz10_2 := fZ BK435.out 2; have hfz10_3 := fZ BK435.out 3))
 refine bodyPost_ret (results_cell_row rfl _ _ gb435 46 #[.int .i64 a0_0, .int .i64 a0_1, .int .i64 a0_2, .slice Ao8 t436.length co8] (0, 0) _ rfl (by (with_reducible repeat (first | refine blk_drewN ?_ _ | refine wZ ?_ | refine aZ ?_ _)); refine blk_put (cs := #[.int .i64 a0_0, .int .i64 a0_1, .int .i64 a0_2, .slice none 0 0]) ?_ 3 _ rfl; (with_reducible repeat (first | refine blk_drewN ?_ _ | refine wZ ?_ | refine aZ ?_ _)); refine blk_put (cs := #[.int .i64 a0_0, .int .i64 a0_1, .int .i64 0, .slice none 0 0]) ?_ 2 _ rfl; (with_reducible repeat (first | refine blk_drewN ?_ _ | refine wZ ?_ | refine aZ ?_ _)); refine blk_put (cs := #[.int .i64 a0_0, .int .i64 0, .int .i64 0, .slice none 0 0]) ?_ 1 _ rfl; (with_reducible repeat (first | refine blk_drewN ?_ _ | refine wZ ?_ | refine aZ ?_ _)); refine blk_put (cs := #[.int .i64 0, .int .i64 0, .int .i64 0, .slice none 0 0]) ?_ 0 _ rfl; (with_reducible repeat (first | refine blk_drewN ?_ _ | refine wZ ?_ | refine aZ ?_ _)); refine blk_far ?_ NB435_434.out _; (with_reducible repeat (first | refine blk_drewN ?_ _ | refine wZ ?_ | refine aZ ?_ _)); exact BK435.out) Tryd.underlying46 rfl (by kernel_rfl)) rfl ?_
 exact ⟨_, by first | rfl | (simp [errW_none, errW_some] <;> rfl) | (simp [*, errW_none, errW_some] <;> rfl), by (with_reducible repeat (first | apply Kd.S_alloc | apply Kd.S_drewN | apply Kd.S_drew)); exact Kd.S_mono (Kd.S_far (p := ⟨gb435, 3, none⟩) (Kd.S_far (p := ⟨gb435, 2, none⟩) (Kd.S_far (p := ⟨gb435, 1, none⟩) (Kd.S_far (p := ⟨gb435, 0, none⟩) (Kd.S_far (p := ⟨gb434, 3, none⟩) (Kd.S_types (Kd.S_types HO438.out BK434.out (by decide)) BK435.out (by decide)) (fun _ hk => hk.1.2) (.slice Ao8 t436.length co8)) (fun _ hk => hk.2) (.int .i64 a0_0)) (fun _ hk => hk.2) (.int .i64 a0_1)) (fun _ hk => hk.2) (.int .i64 a0_2)) (fun _ hk => hk.2) (.slice Ao8 t436.length co8)) (fun _ hk => trivial), by repeat (first | (with_reducible first | exact HB.out | apply lZ | apply pZ | apply dZ | refine sZ ?_ GE434.out | refine sZ ?_ GE435.out) | exact HB.out)⟩
def fugueref00_CopyFuncs.l0 : Nat → List (S46) → List (S46) → Int → Option ((List (S46)))
 | 0, _, _, _ => none
 | k + 1, x0, x3, x4 => if x4 < (x0.length : Int) then (if 0 ≤ x4 then ((fugueref00_CopyFunc.f k ((rd_T46 x0 x4).f0) ((rd_T46 x0 x4).f1) ((rd_T46 x0 x4).f2) ((rd_T46 x0 x4).f3)).bind fun bt440 => (if x3.length < 2932031007402 then (fugueref00_CopyFuncs.l0 k x0 (x3 ++ [(⟨bt440.1, bt440.2.1, bt440.2.2.1, bt440.2.2.2⟩ : S46)]) (wrap64 (x4 + 1))) else (none))) else (none)) else (some x3)
def fugueref00_CopyFuncs.f (k : Nat) (l0 : List (S46)) : Option ((List (S46))) := fugueref00_CopyFuncs.l0 k l0 ([] : List (S46)) 0
set_option maxHeartbeats 8000000 in
set_option maxRecDepth 100000 in
theorem fugueref00_CopyFuncs.calls (k : Nat) (A0 : Option Addr) (c0 : Nat) (l0 : List (S46)) (r : List (S46)) (w : World) (hr0 : Kd.C k46 w A0 l0.length l0) (hc0 : l0.length ≤ c0) (h : fugueref00_CopyFuncs.f k l0 = some r) :
  Calls Tryd.prog 37 #[.slice A0 l0.length c0] w fun e w' => ∃ v0_ : Value, e = .returned (v0_) ∧ Kd.R k46 46 w' w.heap.size (fun _ => True) v0_ r ∧ Below w.heap.size w w' := by
 have hu46 := Tryd.underlying46
 have HR0 := Az.mk hr0
 have HC0 := Az.mk hc0
 clear hr0 hc0
 have HB := Az.mk (Below.refl w.heap.size w)
 have H : (fugueref00_CopyFuncs.l0 k l0 ([] : List (S46)) 0) = some r := h
 clear h
 have H' := Az.mk H
 clear H
 go_enter Tryd.func37, Tryd.ntmps37
 go_wp2
 go_loopg [3, 4] k (fun kq v3 v4 w' => ∃ (x3_1 : List (S46)) (x4_1 : Int), v4 = .int .i64 x4_1 ∧ Az (fugueref00_CopyFuncs.l0 kq l0 x3_1 x4_1 = some r) ∧ Az (kq ≤ k) ∧ Az (Kd.R k46 46 w' w.heap.size (fun _ => True) v3 x3_1) ∧ Az (Below w.heap.size w w'))
 case atStart => exact ⟨(([] : List (S46))), (0), (by first | rfl | (simp; done) | (simp [*]; done)), H', ⟨Nat.le_refl _⟩, ⟨by first | exact Kd.R_nil _ _ _ _ _ | exact Kd.N_nil _ _ _ _ _ | exact Kd.V_nil _ _ _ _ _ | exact Kd.Q_nil _ _ _ _ _ | exact Kd.S_nil _ _ _ _ _⟩, ⟨by repeat (first | (with_reducible first | exact HB.out | apply lZ | apply pZ | apply dZ) | exact HB.out)⟩⟩
 case round =>
  clear H'
  obtain ⟨x3_1, x4_1, rfl, HA, HK1, HO_3, HB⟩ := hrel
  cases gk with
  | zero => exact absurd HA.out (by simp [fugueref00_CopyFuncs.l0])
  | succ k1 =>
   have H := HA.out
   clear HA
   simp only [fugueref00_CopyFuncs.l0] at H
   by_cases c2 : x4_1 < (l0.length : Int)
   ·rw [if_pos c2] at H
    have c2b0 : decide (x4_1 < (l0.length : Int)) = true := decide_eq_true c2
    clear c2
    by_cases c3 : 0 ≤ x4_1
    ·rw [if_pos c3] at H
     have c3b0 : decide (0 ≤ x4_1) = true := decide_eq_true c3
     clear c3
     replace H := Option.bind_eq_some_iff.mp H
     obtain ⟨⟨t440, t441, t442, t443⟩, A40, H⟩ := H
     replace H : (if x3_1.length < 2932031007402 then (fugueref00_CopyFuncs.l0 k1 l0 (x3_1 ++ [(⟨t440, t441, t442, t443⟩ : S46)]) (wrap64 (x4_1 + 1))) else (none)) = some r := H
     have A4 := Az.mk A40
     clear A40
     by_cases c5 : x3_1.length < 2932031007402
     ·rw [if_pos c5] at H
      have LMc5 := Az.mk c5
      clear c5
      obtain ⟨y447, hy447⟩ : ∃ y_ : List (S46), y_ = (x3_1 ++ [(⟨t440, t441, t442, t443⟩ : S46)]) := ⟨_, rfl⟩
      replace H : (fugueref00_CopyFuncs.l0 k1 l0 y447 (wrap64 (x4_1 + 1))) = some r := by first | (rw [hy447]; with_reducible exact H) | (have H2_ := (Option.bind_some _ _).symm.trans H; rw [hy447]; with_reducible exact H2_) | (have H2_ := (Option.bind_some _ _).symm.trans H; with_reducible exact H2_) | with_reducible exact H | (rw [hy447]; exact H) | exact H
      have Ny447 := Az.mk hy447
      clear hy447
      have H' := Az.mk H
      clear H
      have p439 : 0 ≤ (x4_1 : Int) := of_decide_eq_true (by first | (with_reducible assumption) | assumption)
      have q439 : x4_1 < (l0.length : Int) := of_decide_eq_true (by first | (with_reducible assumption) | assumption)
      obtain ⟨ad439, A439_3, c439_3, e439, hx439_0, hx439_1, hx439_2, hx439_3, hl439_3, hi439_3⟩ := at_T46 HR0.out x4_1 p439 q439
      cases e439
      replace hx439_0 := (HB.out.cell (World.block_lt_of_cell? w _ hx439_0)).trans hx439_0
      replace hx439_1 := (HB.out.cell (World.block_lt_of_cell? w _ hx439_1)).trans hx439_1
      replace hx439_2 := (HB.out.cell (World.block_lt_of_cell? w _ hx439_2)).trans hx439_2
      replace hx439_3 := (HB.out.cell (World.block_lt_of_cell? w _ hx439_3)).trans hx439_3
      have HR439_3 := Az.mk hi439_3
      have HC439_3 := Az.mk hl439_3
      clear hi439_3 hl439_3
      replace p439 := eq_true p439
      replace q439 := eq_true q439
      go_wp2_with (first | ((with_reducible refine gate_callee (f := 67) rfl ?_); refine goesL_ (some 16) rfl rfl Tryd.func67 (by kernel_rfl) rfl #[.agg #[.int .i64 ((rd_T46 l0 x4_1).f0), .int .i64 ((rd_T46 l0 x4_1).f1), .int .i64 ((rd_T46 l0 x4_1).f2), .slice A439_3 ((rd_T46 l0 x4_1).f3).length c439_3]] rfl (by (try simp only [List.map_toArray, List.map_cons, List.map_nil]); first | done | rfl | (simp only [List.length_drop, List.length_take]; rfl)) ?_; (with_reducible refine (fugueref00_CopyFunc.calls k1 ((rd_T46 l0 x4_1).f0) ((rd_T46 l0 x4_1).f1) ((rd_T46 l0 x4_1).f2) _ _ ((rd_T46 l0 x4_1).f3) t440 t441 t442 t443 _ ?side1 ?side2 A4.out).mono ?_); (case side1 => repeat (first | exact (Kd.C_below HR439_3.out HB.out) | (with_reducible refine Kd.C_alloc ?_ _) | (with_reducible refine Kd.C_drewN ?_ _) | (with_reducible refine Kd.C_drew ?_))); (case side2 => exact HC439_3.out); rintro e w6 ⟨v444, rfl, ho0, hb⟩; refine ⟨_, rfl, ?_⟩; replace HO_3 := Az.mk (Kd.R_elder' (by (with_reducible repeat (first | apply Kd.R_alloc | apply Kd.R_drewN | apply Kd.R_drew)); exact HO_3.out) (Kd.S_base ho0) hb); have HO445 := Az.mk (Kd.S_lower ho0 (zZ (by repeat (first | (with_reducible first | exact HB.out | apply lZ | apply pZ | apply dZ) | exact HB.out)))); replace HB := Az.mk (tZ (by repeat (first | (with_reducible first | exact HB.out | apply lZ | apply pZ | apply dZ) | exact HB.out)) hb); (try clear hb); (try clear hb2); (try clear hk); (try clear hi); (try clear ho0)) | ((with_reducible refine gate_dst (N := 5) rfl ?_); refine box_event ?hg (N := 5) ?hd (cs := #[.int .i64 0, .int .i64 0, .int .i64 0, .slice none 0 0]) (t := 46) ?hr ?_; (case hd => rfl); (case hg => rfl); (case hr => first | (go_simp; done) | (go_simp; rfl)); intro gb446 hg w7 hbox hb; have n0_ := Az.mk (Kd.R_below (Kd.R_elderB (by (with_reducible repeat (first | apply Kd.R_alloc | apply Kd.R_drewN | apply Kd.R_drew)); exact HO_3.out) gb446 (Nat.le_of_eq hg.symm)) hb); have n1_ := Az.mk (Kd.S_below (by (with_reducible repeat (first | apply Kd.S_alloc | apply Kd.S_drewN | apply Kd.S_drew)); exact HO445.out) hb); have n2_ := Az.mk (tZ (by repeat (first | (with_reducible first | exact HB.out | apply lZ | apply pZ | apply dZ) | exact HB.out)) hb); have n3_ := Az.mk (hbox); have n4_ := Az.mk ((by rw [hg]; exact (zZ (by repeat (first | (with_reducible first | exact HB.out | apply lZ | apply pZ | apply dZ) | exact HB.out))) : w.heap.size ≤ gb446)); have n5_ := Az.mk ((by rw [hg]; exact (zZ (by repeat (first | (with_reducible first | exact HB.out | apply lZ | apply pZ | apply dZ) | exact HB.out))) : w.heap.size ≤ gb446)); clear HO_3; clear HO445; clear HB; have HO_3 := n0_; have HO445 := n1_; have HB := n2_; have BK446 := n3_; have GW446 := n4_; have GE446 := n5_; clear n0_ n1_ n2_ n3_ n4_ n5_; clear hb hbox hg; have hcz8_0 : w7.cell? ⟨gb446, 0, none⟩ = some (.int .i64 0) := (bZ BK446.out 0).trans rfl; have hcz8_1 : w7.cell? ⟨gb446, 1, none⟩ = some (.int .i64 0) := (bZ BK446.out 1).trans rfl; have hcz8_2 : w7.cell? ⟨gb446, 2, none⟩ = some (.int .i64 0) := (bZ BK446.out 2).trans rfl; have hcz8_3 : w7.cell? ⟨gb446, 3, none⟩ = some (.slice none 0 0) := (bZ BK446.out 3).trans rfl; have hfz8_0 := fZ BK446.out 0; have hfz8_1 := fZ BK446.out 1; have hfz8_2 := fZ BK446.out 2; have hfz8_3 := fZ BK446.out 3; obtain ⟨Ao9, co9, eo9⟩ := Kd.S_slice HO445.out; subst eo9) | ((with_reducible refine gate_store (t := 46) (p := 5) rfl ?_); refine store_event (t := 46) (p := 5) (v := ?vo_w10) (w1 := ((((w7.setCell ⟨gb446, 0, none⟩ (.int .i64 t440)).setCell ⟨gb446, 1, none⟩ (.int .i64 t441)).setCell ⟨gb446, 2, none⟩ (.int .i64 t442)).setCell ⟨gb446, 3, none⟩ (.slice Ao9 t443.length co9))) ?hg ?ho ?hn ?hr ?_; (case ho => rfl); (case hg => rfl); (case hn => rfl); (case hr => first | (go_simp; done) | (go_simp; rfl)); intro w10 hw; have n0_ : Az (Kd.R k46 46 w10 w.heap.size (fun k_ => some k_ ≠ (.slice Ao9 t443.length co9 : Value).ownBlock ∧ k_ ≠ gb446) u3 x3_1) := ⟨(by rw [hw]; exact (by (with_reducible repeat (first | apply Kd.R_alloc | apply Kd.R_drewN | apply Kd.R_drew)); exact Kd.R_mono (Kd.R_far (p := ⟨gb446, 3, none⟩) (Kd.R_far (p := ⟨gb446, 2, none⟩) (Kd.R_far (p := ⟨gb446, 1, none⟩) (Kd.R_far (p := ⟨gb446, 0, none⟩) (Kd.R_mono HO_3.out (fun k_ hk => (⟨hk, hk.2⟩ : _ ∧ k_ ≠ gb446))) (fun _ hk => hk.2) (.int .i64 t440)) (fun _ hk => hk.2) (.int .i64 t441)) (fun _ hk => hk.2) (.int .i64 t442)) (fun _ hk => hk.2) (.slice Ao9 t443.length co9)) (fun _ hk => ⟨hk.1.1.2, hk.1.2⟩)))⟩; have n1_ : Az (Kd.S k50 50 w10 w.heap.size (fun _ => True) (.slice Ao9 t443.length co9) t443) := ⟨(by rw [hw]; exact (by (with_reducible repeat (first | apply Kd.S_alloc | apply Kd.S_drewN | apply Kd.S_drew)); exact Kd.S_mono (Kd.S_far (p := ⟨gb446, 3, none⟩) (Kd.S_far (p := ⟨gb446, 2, none⟩) (Kd.S_far (p := ⟨gb446, 1, none⟩) (Kd.S_far (p := ⟨gb446, 0, none⟩) (Kd.S_types HO445.out BK446.out (by decide)) (fun _ hk => hk.2) (.int .i64 t440)) (fun _ hk => hk.2) (.int .i64 t441)) (fun _ hk => hk.2) (.int .i64 t442)) (fun _ hk => hk.2) (.slice Ao9 t443.length co9)) (fun _ hk => trivial)))⟩; have n2_ : Az (w10.heap[gb446]? = some (.cells #[.int .i64 t440, .int .i64 t441, .int .i64 t442, .slice Ao9 t443.length co9] 46 (0, 0))) := ⟨(by rw [hw]; exact (by (with_reducible repeat (first | refine blk_drewN ?_ _ | refine wZ ?_ | refine aZ ?_ _)); refine blk_put (cs := #[.int .i64 t440, .int .i64 t441, .int .i64 t442, .slice none 0 0]) ?_ 3 _ rfl; (with_reducible repeat (first | refine blk_drewN ?_ _ | refine wZ ?_ | refine aZ ?_ _)); refine blk_put (cs := #[.int .i64 t440, .int .i64 t441, .int .i64 0, .slice none 0 0]) ?_ 2 _ rfl; (with_reducible repeat (first | refine blk_drewN ?_ _ | refine wZ ?_ | refine aZ ?_ _)); refine blk_put (cs := #[.int .i64 t440, .int .i64 0, .int .i64 0, .slice none 0 0]) ?_ 1 _ rfl; (with_reducible repeat (first | refine blk_drewN ?_ _ | refine wZ ?_ | refine aZ ?_ _)); refine blk_put (cs := #[.int .i64 0, .int .i64 0, .int .i64 0, .slice none 0 0]) ?_ 0 _ rfl; (with_reducible repeat (first | refine blk_drewN ?_ _ | refine wZ ?_ | refine aZ ?_ _)); exact BK446.out))⟩; have n3_ : Az (Below w.heap.size w w10) := ⟨(by rw [hw]; exact (by repeat (first | (with_reducible first | exact HB.out | apply lZ | apply pZ | apply dZ | refine sZ ?_ GE446.out) | exact HB.out)))⟩; clear hw; clear HO_3; clear HO445; clear BK446; clear HB; have HO_3 := n0_; have HO445 := n1_; have BK446 := n2_; have HB := n3_; clear n0_ n1_ n2_ n3_; have hcz11_0 : w10.cell? ⟨gb446, 0, none⟩ = some (.int .i64 t440) := (bZ BK446.out 0).trans rfl; have hcz11_1 : w10.cell? ⟨gb446, 1, none⟩ = some (.int .i64 t441) := (bZ BK446.out 1).trans rfl; have hcz11_2 : w10.cell? ⟨gb446, 2, none⟩ = some (.int .i64 t442) := (bZ BK446.out 2).trans rfl; have hcz11_3 : w10.cell? ⟨gb446, 3, none⟩ = some (.slice Ao9 t443.length co9) := (bZ BK446.out 3).trans rfl; have hfz11_0 := fZ BK446.out 0; have hfz11_1 := fZ BK446.out 1; have hfz11_2 := fZ BK446.out 2; have hfz11_3 := fZ BK446.out 3) | ((with_reducible refine gate_builtin (b := .append) (xs := #[.tmp 17, .tmp 19]) rfl ?_); at_builtin; refine Kd.R_append k46 (w0 := w) w.heap.size rfl (.tmp 17) (.tmp 19) 22 46 (.agg #[(.int .i64 0), (.int .i64 0), (.int .i64 0), (.slice none 0 0)]) 48 rfl Tryd.underlying22 info46 rfl (by decide) (by omega) u3 x3_1 (⟨t440, t441, t442, t443⟩ : S46) [.int .i64 t440, .int .i64 t441, .int .i64 t442, .slice Ao9 t443.length co9] (fun k_ => k_ ≠ gb446) (fun k_ => ((fun k_ => k_ ≠ gb446)) k_ ∧ some k_ ≠ (u3 : Value).ownBlock) rfl rfl ?aP (fun _ hk => hk) ?aF ?aO ?aB ?aS ?aL ?_; (case aP => exact k46_mkM _ _ _ (⟨t440, t441, t442, t443⟩ : S46) (Kd.R_mono (Kd.R_types (Kd.R_apart' ((Kd.S_R HO445.out)) (Kd.R_typed HO_3.out) (by decide)) BK446.out (by decide)) (fun k_ hk => ⟨hk.2, hk.1.2⟩))); (case aB => exact (by repeat (first | (with_reducible first | exact HB.out | apply lZ | apply pZ | apply dZ | refine sZ ?_ GE446.out) | exact HB.out))); (case aF => exact (fun k_ hk => Kd.freshB (g := gb446) (o := .cells #[.int .i64 t440, .int .i64 t441, .int .i64 t442, .slice Ao9 t443.length co9] 46 (0, 0)) (by (with_reducible repeat (first | refine blk_drewN ?_ _ | refine wZ ?_ | refine aZ ?_ _)); exact BK446.out) k_ hk)); (case aO => exact (by (with_reducible repeat (first | apply Kd.R_alloc | apply Kd.R_drewN | apply Kd.R_drew)); exact Kd.R_mono HO_3.out (fun _ hk => hk.2))); (case aS => exact (zZ (by repeat (first | (with_reducible first | exact HB.out | apply lZ | apply pZ | apply dZ | refine sZ ?_ GE446.out) | exact HB.out)))); (case aL => have := LMc5.out; omega); intro v448 w12 ho hb hg hat; rw [← Ny447.out] at ho; replace BK446 := Az.mk (blk_grown (g := gb446) (o := .cells #[.int .i64 t440, .int .i64 t441, .int .i64 t442, .slice Ao9 t443.length co9] 46 (0, 0)) (by (with_reducible repeat (first | refine blk_drewN ?_ _ | refine wZ ?_ | refine aZ ?_ _)); exact BK446.out) hg (Kd.R_away HO_3.out (fun _ hk => hk.2))); replace HB := Az.mk (hb); have HO449 := Az.mk (ho); clear HO_3 HO445; clear ho hb hg hat))
      go_roundg k1
      case measure => have := HK1.out; omega
      case rel => exact ⟨(y447), (wrap64 (x4_1 + 1)), (by first | rfl | (simp; done) | (simp [*]; done)), H', ⟨by have := HK1.out; omega⟩, ⟨by (with_reducible repeat (first | apply Kd.R_alloc | apply Kd.R_drewN | apply Kd.R_drew)); exact Kd.R_mono HO449.out (fun _ hk => trivial)⟩, ⟨by repeat (first | (with_reducible first | exact HB.out | apply lZ | apply pZ | apply dZ | refine sZ ?_ GE446.out) | exact HB.out)⟩⟩
     ·rw [if_neg c5] at H
      exact absurd H (by simp)
    ·rw [if_neg c3] at H
     exact absurd H (by simp)
   ·rw [if_neg c2] at H
    have c2b0 : decide (x4_1 < (l0.length : Int)) = false := decide_eq_false c2
    clear c2
    obtain rfl := Option.some.inj H
    go_wp2
    go_ret
    exact ⟨_, by first | rfl | (simp [errW_none, errW_some] <;> rfl) | (simp [*, errW_none, errW_some] <;> rfl), by (with_reducible repeat (first | apply Kd.R_alloc | apply Kd.R_drewN | apply Kd.R_drew)); exact HO_3.out, by repeat (first | (with_reducible first | exact HB.out | apply lZ | apply pZ | apply dZ) | exact HB.out)⟩
end Go.Proofs.YteonppgdmhakoaaDoor.PC
namespace Go.Proofs.YteonppgdmhakoaaDoor.PC
open Go.RowKit Go.Proofs.YteonppgdmhakoaaDoorW.PrintWords Go.Proofs.YteonppgdmhakoaaDoorW.PrintLast Go.Proofs.YteonppgdmhakoaaDoorW.PrintMore
attribute [local go_sem] max2_int min2_int max_two min_two max_three min_three max_four min_four
set_option linter.unusedVariables false
set_option linter.unusedSimpArgs false
def fugueref00_CopyProgram.f (k : Nat) (a0_0 : Int) (l0_1 : List (S46)) : Option (Int × (List (S46))) := (fugueref00_CopyFuncs.f k l0_1).bind fun t452 => (some (a0_0, t452))
set_option maxHeartbeats 8000000 in
set_option maxRecDepth 100000 in
theorem fugueref00_CopyProgram.calls (k : Nat) (a0_0 : Int) (A0_1 : Option Addr) (c0_1 : Nat) (l0_1 : List (S46)) (r1 : Int) (r2 : List (S46)) (w : World) (hr0_1 : Kd.C k46 w A0_1 l0_1.length l0_1) (hc0_1 : l0_1.length ≤ c0_1) (h : fugueref00_CopyProgram.f k a0_0 l0_1 = some (r1, r2)) :
  Calls Tryd.prog 19 #[.agg #[.int .i64 a0_0, .slice A0_1 l0_1.length c0_1]] w fun e w' => ∃ v1_ : Value, e = .returned (.agg #[.int .i64 r1, v1_]) ∧ Kd.R k46 46 w' w.heap.size (fun _ => True) v1_ r2 ∧ Below w.heap.size w w' := by
 have hu24 := Tryd.underlying24
 have HR0_1 := Az.mk hr0_1
 have HC0_1 := Az.mk hc0_1
 clear hr0_1 hc0_1
 have HB := Az.mk (Below.refl w.heap.size w)
 have H : ((fugueref00_CopyFuncs.f k l0_1).bind fun t452 => (some (a0_0, t452))) = some (r1, r2) := h
 clear h
 replace H := Option.bind_eq_some_iff.mp H
 obtain ⟨t452, A20, H⟩ := H
 replace H : (some (a0_0, t452)) = some (r1, r2) := H
 have A2 := Az.mk A20
 clear A20
 simp only [Option.some.injEq, Prod.mk.injEq] at H
 obtain ⟨rfl, rfl⟩ := H
 go_enter Tryd.func19, Tryd.ntmps19
 try go_wp2_with (first | ((with_reducible refine gate_dst (N := 1) rfl ?_); refine box_event ?hg (N := 1) ?hd (cs := #[.int .i64 a0_0, .slice A0_1 l0_1.length c0_1]) (t := 24) ?hr ?_; (case hd => rfl); (case hg => rfl); (case hr => first | (go_simp; done) | (go_simp; rfl)); intro gb450 hg w3 hbox hb; have n0_ := Az.mk (tZ (by repeat (first | (with_reducible first | exact HB.out | apply lZ | apply pZ | apply dZ) | exact HB.out)) hb); have n1_ := Az.mk (hbox); have n2_ := Az.mk ((by rw [hg]; exact (zZ (by repeat (first | (with_reducible first | exact HB.out | apply lZ | apply pZ | apply dZ) | exact HB.out))) : w.heap.size ≤ gb450)); have n3_ := Az.mk ((by rw [hg]; exact (zZ (by repeat (first | (with_reducible first | exact HB.out | apply lZ | apply pZ | apply dZ) | exact HB.out))) : w.heap.size ≤ gb450)); clear HB; have HB := n0_; have BK450 := n1_; have GW450 := n2_; have GE450 := n3_; clear n0_ n1_ n2_ n3_; clear hb hbox hg) | ((with_reducible refine gate_dst (N := 2) rfl ?_); refine box_event ?hg (N := 2) ?hd (cs := #[.int .i64 0, .slice none 0 0]) (t := 24) ?hr ?_; (case hd => rfl); (case hg => rfl); (case hr => first | (go_simp; done) | (go_simp; rfl)); intro gb451 hg w4 hbox hb; have n0_ := Az.mk (kZ (g := gb450) (o := .cells #[.int .i64 a0_0, .slice A0_1 l0_1.length c0_1] 24 (0, 0)) (by (with_reducible repeat (first | refine blk_drewN ?_ _ | refine wZ ?_ | refine aZ ?_ _)); exact BK450.out) hb); have n1_ := Az.mk (tZ (by repeat (first | (with_reducible first | exact HB.out | apply lZ | apply pZ | apply dZ | refine sZ ?_ GE450.out) | exact HB.out)) hb); have n2_ := Az.mk (hbox); have n3_ := Az.mk ((by rw [hg]; exact (zZ (by repeat (first | (with_reducible first | exact HB.out | apply lZ | apply pZ | apply dZ | refine sZ ?_ GE450.out) | exact HB.out))) : w.heap.size ≤ gb451)); have n4_ := Az.mk ((by rw [hg]; exact (zZ (by repeat (first | (with_reducible first | exact HB.out | apply lZ | apply pZ | apply dZ | refine sZ ?_ GE450.out) | exact HB.out))) : w.heap.size ≤ gb451)); have n5_ := Az.mk ((by rw [hg]; exact Nat.ne_of_lt (blk_lt (g := gb450) (o := .cells #[.int .i64 a0_0, .slice A0_1 l0_1.length c0_1] 24 (0, 0)) (by (with_reducible repeat (first | refine blk_drewN ?_ _ | refine wZ ?_ | refine aZ ?_ _)); exact BK450.out)) : gb450 ≠ gb451)); have n6_ := Az.mk ((by rw [hg]; exact Nat.ne_of_gt (blk_lt (g := gb450) (o := .cells #[.int .i64 a0_0, .slice A0_1 l0_1.length c0_1] 24 (0, 0)) (by (with_reducible repeat (first | refine blk_drewN ?_ _ | refine wZ ?_ | refine aZ ?_ _)); exact BK450.out)) : gb451 ≠ gb450)); clear BK450; clear HB; have BK450 := n0_; have HB := n1_; have BK451 := n2_; have GW451 := n3_; have GE451 := n4_; have NB450_451 := n5_; have NB451_450 := n6_; clear n0_ n1_ n2_ n3_ n4_ n5_ n6_; clear hb hbox hg))
 replace BK450 := Az.mk (wZ BK450.out)
 replace BK451 := Az.mk (wZ BK451.out)
 replace HB := Az.mk (dZ HB.out)
 refine start_ (n := 7) (S := fun w' => w'.cell? ⟨gb450, 0, none⟩ = some (.int .i64 a0_0) ∧ w'.cell? ⟨gb450, 1, none⟩ = some (.slice A0_1 l0_1.length c0_1)) (ds := []) #[false, false, false, false, false, false, false] (by kernel_rfl) rfl rfl ⟨(bZ BK450.out 0).trans rfl, (bZ BK450.out 1).trans rfl⟩ (fun hHeld => ?_)
 generalize w4.drew = w5 at BK450 BK451 HB hHeld ⊢
 refine pure_ (i := 0) (N := some 3) (v := ?_) (a' := ?_) #[true, false, false, false, false, false, false] rfl rfl (by kernel_rfl) (fun _ _ _ h => h) (Or.inl ⟨by rfl, ?_⟩) ?_ ?_
 rotate_left
 ·intro w'
  go_simp
  with_reducible rfl
 rotate_left
 ·simp only [Act.put, pn, i64_w, i32_w]
  rfl
 refine pure_ (i := 2) (N := some 5) (v := ?_) (a' := ?_) #[true, false, true, false, false, false, false] rfl rfl (by kernel_rfl) (fun _ _ _ h => h) (Or.inl ⟨by rfl, ?_⟩) ?_ ?_
 rotate_left
 ·intro w'
  go_simp
  with_reducible rfl
 rotate_left
 ·simp only [Act.put, pn, i64_w, i32_w]
  rfl
 refine pt 1 (some 4) (v := ?_) (a' := ?_) rfl rfl (by kernel_rfl) (fun _ _ _ h => h) (Or.inl ⟨by rfl, ?_⟩) hHeld ?_ ?_
 rotate_left; (rintro w' ⟨s0, s1⟩; go_simp; with_reducible rfl); rotate_left; (simp only [Act.put, pn, i64_w, i32_w]; rfl)
 refine pt 3 (some 6) (v := ?_) (a' := ?_) rfl rfl (by kernel_rfl) (fun _ _ _ h => h) (Or.inl ⟨by rfl, ?_⟩) hHeld ?_ ?_
 rotate_left; (rintro w' ⟨s0, s1⟩; go_simp; with_reducible rfl); rotate_left; (simp only [Act.put, pn, i64_w, i32_w]; rfl)
 refine one_ (i := 4) (N := some 7) #[true, true, true, true, true, false, false] rfl rfl (by kernel_rfl) (by decide) (fun K hK => ?_)
 refine goes_ Tryd.func37 (by kernel_rfl) rfl #[.slice A0_1 l0_1.length c0_1] (by rfl) rfl rfl (by (try simp only [List.map_toArray, List.map_cons, List.map_nil]); first | done | rfl | (simp only [List.length_drop, List.length_take]; rfl)) ?_
 with_reducible refine (fugueref00_CopyFuncs.calls k _ _ l0_1 t452 _ ?side1 ?side2 A2.out).mono ?_
 (case side1 => repeat (first | exact (Kd.C_below HR0_1.out HB.out) | (with_reducible refine Kd.C_alloc ?_ _) | (with_reducible refine Kd.C_drewN ?_ _) | (with_reducible refine Kd.C_drew ?_)))
 (case side2 => exact HC0_1.out)
 rintro e w6 ⟨v453, rfl, ho0, hb⟩
 refine ⟨_, rfl, ?_⟩
 have HO454 := Az.mk (Kd.R_lower ho0 (zZ (by repeat (first | (with_reducible first | exact HB.out | apply lZ | apply pZ | apply dZ | refine sZ ?_ GE450.out | refine sZ ?_ GE451.out) | exact HB.out))))
 replace BK450 := Az.mk (kZ (g := gb450) (o := .cells #[.int .i64 a0_0, .slice A0_1 l0_1.length c0_1] 24 (0, 0)) (by (with_reducible repeat (first | refine blk_drewN ?_ _ | refine wZ ?_ | refine aZ ?_ _)); exact BK450.out) hb)
 replace BK451 := Az.mk (kZ (g := gb451) (o := .cells #[.int .i64 0, .slice none 0 0] 24 (0, 0)) (by (with_reducible repeat (first | refine blk_drewN ?_ _ | refine wZ ?_ | refine aZ ?_ _)); exact BK451.out) hb)
 replace HB := Az.mk (tZ (by repeat (first | (with_reducible first | exact HB.out | apply lZ | apply pZ | apply dZ | refine sZ ?_ GE450.out | refine sZ ?_ GE451.out) | exact HB.out)) hb)
 (try clear hb)
 (try clear hb2)
 (try clear hk)
 (try clear hi)
 (try clear ho0)
 obtain ⟨Ao7, co7, eo7⟩ := Kd.R_slice HO454.out
 (first | subst eo7 | (injection eo7 with f1_ f2_ f3_; have f4_ := f1_.symm; have f5_ := f3_.symm; clear f1_ f2_ f3_; subst f4_; subst f5_))
 refine hK.out _ _ ⟨(bZ BK450.out 0).trans rfl, (bZ BK450.out 1).trans rfl⟩ (fun hHeld => ?_)
 clear hK K
 refine norm_ (a' := ?_) ?_ ?_
 rotate_left
 ·show Act.put _ (some 7) _ = _
  simp only [Act.put, pn, i64_w, i32_w]
  rfl
 refine pure_ (i := 5) (N := some 8) (v := ?_) (a' := ?_) #[true, true, true, true, true, true, false] rfl rfl (by kernel_rfl) (fun _ _ _ h => h) (Or.inl ⟨by rfl, ?_⟩) ?_ ?_
 rotate_left
 ·intro w'
  go_simp
  with_reducible rfl
 rotate_left
 ·simp only [Act.put, pn, i64_w, i32_w]
  rfl
 refine one_ (i := 6) (N := none) #[true, true, true, true, true, true, true] rfl rfl (by kernel_rfl) (by decide) (fun K hK => ?_)
 have hs8 : w6.cell? ⟨gb451, 0, none⟩ = some (.int .i64 0) := (bZ BK451.out 0).trans rfl
 have hfs8 := fZ BK451.out 0
 have hns8_0 := NB450_451.out
 have hms8_0 := NB451_450.out
 have hs9 : w6.cell? ⟨gb451, 1, none⟩ = some (.slice none 0 0) := (bZ BK451.out 1).trans rfl
 have hfs9 := fZ BK451.out 1
 have hns9_0 := NB450_451.out
 have hms9_0 := NB451_450.out
 refine skip_ (w1 := ?_) (by rfl) rfl ?_ ?_
 rotate_left
 ·go_simp
  rfl
 refine hK.out _ _ ⟨((cell_far (p := ⟨gb451, _, none⟩) NB450_451.out _).trans (((cell_far (p := ⟨gb451, _, none⟩) NB450_451.out _).trans (hHeld.1)))), ((cell_far (p := ⟨gb451, _, none⟩) NB450_451.out _).trans (((cell_far (p := ⟨gb451, _, none⟩) NB450_451.out _).trans (hHeld.2))))⟩ (fun hHeld => ?_)
 clear hK K
 refine done_ (by kernel_rfl) ?_
 try go_wp2
 refine bodyPost_ret (results_cell_row rfl _ _ gb451 24 #[.int .i64 a0_0, .slice Ao7 t452.length co7] (0, 0) _ rfl (by (with_reducible repeat (first | refine blk_drewN ?_ _ | refine wZ ?_ | refine aZ ?_ _)); refine blk_put (cs := #[.int .i64 a0_0, .slice none 0 0]) ?_ 1 _ rfl; (with_reducible repeat (first | refine blk_drewN ?_ _ | refine wZ ?_ | refine aZ ?_ _)); refine blk_put (cs := #[.int .i64 0, .slice none 0 0]) ?_ 0 _ rfl; (with_reducible repeat (first | refine blk_drewN ?_ _ | refine wZ ?_ | refine aZ ?_ _)); exact BK451.out) Tryd.underlying24 rfl (by kernel_rfl)) rfl ?_
 exact ⟨_, by first | rfl | (simp [errW_none, errW_some] <;> rfl) | (simp [*, errW_none, errW_some] <;> rfl), by (with_reducible repeat (first | apply Kd.R_alloc | apply Kd.R_drewN | apply Kd.R_drew)); exact Kd.R_mono (Kd.R_far (p := ⟨gb451, 1, none⟩) (Kd.R_far (p := ⟨gb451, 0, none⟩) (Kd.R_types HO454.out BK451.out (by decide)) (fun _ hk => hk.2) (.int .i64 a0_0)) (fun _ hk => hk.2) (.slice Ao7 t452.length co7)) (fun _ hk => trivial), by repeat (first | (with_reducible first | exact HB.out | apply lZ | apply pZ | apply dZ | refine sZ ?_ GE450.out | refine sZ ?_ GE451.out) | exact HB.out)⟩
def fugueref01_add.l0 : Nat → List Int → Int → Int → Int → Option (List Int)
 | 0, _, _, _, _ => none
 | k + 1, x0, x1, x2, x7 => if x7 < x2 then (if x0.length < 140737488355328 then (fugueref01_add.l0 k (x0 ++ [(Int.tmod x1 256) % 256]) (IntKind.u64.wrap (Int.tdiv x1 256)) x2 (wrap64 (x7 + 1))) else (none)) else (some x0)
def fugueref01_add.f (k : Nat) (l0 : List Int) (a1 : Int) (a2 : Int) : Option (List Int) := fugueref01_add.l0 k l0 a1 a2 0
set_option maxHeartbeats 8000000 in
set_option maxRecDepth 100000 in
theorem fugueref01_add.calls (k : Nat) (P0_ : Nat → Prop) (u9000_ : Value) (l0 : List Int) (a1 : Int) (a2 : Int) (r : List Int) (w0 w : World) (hB : Below w0.heap.size w0 w) (ho0 : Kd.R (Kd.int .u8) 5 w w0.heap.size P0_ u9000_ l0) (h : fugueref01_add.f k l0 a1 a2 = some r) :
  Calls Tryd.prog 39 #[u9000_, .int .u64 a1, .int .i64 a2] w fun e w' => ∃ v0_ : Value, e = .returned (v0_) ∧ Kd.R (Kd.int .u8) 5 w' w0.heap.size (fun k_ => (P0_ k_ ∨ w.heap.size ≤ k_)) v0_ r ∧ Below w0.heap.size w0 w' ∧ Kept w w' (fun k_ => P0_ k_) := by
 have HO0 := Az.mk (show Kd.R (Kd.int .u8) 5 w w0.heap.size (fun k_ => (P0_ k_ ∨ w.heap.size ≤ k_)) u9000_ l0 from Kd.R_mono ho0 (fun k_ hk => (.inl hk)))
 have HK := Az.mk (Kept.refl w (fun k_ => P0_ k_))
 have HW0 := Az.mk hB.size
 have HB := Az.mk hB
 clear hB
 have H : (fugueref01_add.l0 k l0 a1 a2 0) = some r := h
 clear h
 have H' := Az.mk H
 clear H
 go_enter Tryd.func39, Tryd.ntmps39
 go_wp2
 go_loopg [0, 1, 7] k (fun kq v0 v1 v7 w' => ∃ (x0_1 : List Int) (x1_1 : Int) (x7_1 : Int), v1 = .int .u64 x1_1 ∧ v7 = .int .i64 x7_1 ∧ Az (fugueref01_add.l0 kq x0_1 x1_1 a2 x7_1 = some r) ∧ Az (kq ≤ k) ∧ Az (Kd.R (Kd.int .u8) 5 w' w0.heap.size (fun k_ => (P0_ k_ ∨ w.heap.size ≤ k_)) v0 x0_1) ∧ Az (Kept w w' (fun k_ => P0_ k_)) ∧ Az (Below w0.heap.size w0 w'))
 case atStart => exact ⟨(l0), (a1), (0), (by first | rfl | (simp; done) | (simp [*]; done)), (by first | rfl | (simp; done) | (simp [*]; done)), H', ⟨Nat.le_refl _⟩, ⟨by (with_reducible repeat (first | apply Kd.R_alloc | apply Kd.R_drewN | apply Kd.R_drew)); exact HO0.out⟩, ⟨by repeat (first | (with_reducible first | exact HK.out | apply Kept.alloc | apply Kept.drewN | apply Kept.drew) | exact HK.out)⟩, ⟨by repeat (first | (with_reducible first | exact HB.out | apply lZ | apply pZ | apply dZ) | exact HB.out)⟩⟩
 case round =>
  clear H'
  try clear p2
  try clear c3
  obtain ⟨x0_1, x1_1, x7_1, rfl, rfl, HA, HK1, HO_0, HK, HB⟩ := hrel
  cases gk with
  | zero => exact absurd HA.out (by simp [fugueref01_add.l0])
  | succ k1 =>
   have H := HA.out
   clear HA
   simp only [fugueref01_add.l0] at H
   by_cases c4 : x7_1 < a2
   ·rw [if_pos c4] at H
    have c4b0 : decide (x7_1 < a2) = true := decide_eq_true c4
    clear c4
    by_cases c5 : x0_1.length < 140737488355328
    ·rw [if_pos c5] at H
     have LMc5 := Az.mk c5
     clear c5
     obtain ⟨y468, hy468⟩ : ∃ y_ : List Int, y_ = (x0_1 ++ [(Int.tmod x1_1 256) % 256]) := ⟨_, rfl⟩
     replace H : (fugueref01_add.l0 k1 y468 (IntKind.u64.wrap (Int.tdiv x1_1 256)) a2 (wrap64 (x7_1 + 1))) = some r := by first | (rw [hy468]; with_reducible exact H) | (have H2_ := (Option.bind_some _ _).symm.trans H; rw [hy468]; with_reducible exact H2_) | (have H2_ := (Option.bind_some _ _).symm.trans H; with_reducible exact H2_) | with_reducible exact H | (rw [hy468]; exact H) | exact H
     have Ny468 := Az.mk hy468
     clear hy468
     have H' := Az.mk H
     clear H
     go_wp2_with (first | ((with_reducible refine gate_builtin (b := .append) (xs := #[.tmp 13, .tmp 17]) rfl ?_); at_builtin; refine Kd.R_append (Kd.int .u8) (w0 := w0) w0.heap.size rfl (.tmp 13) (.tmp 17) 33 5 (.int .u8 0) 1 rfl Tryd.underlying33 info5 rfl (by decide) (by omega) u0 x0_1 ((Int.tmod x1_1 256) % 256) [.int .u8 ((Int.tmod x1_1 256) % 256)] (fun k_ => (P0_ k_ ∨ w.heap.size ≤ k_)) (fun _ => False) rfl rfl ?aP (fun _ hk => hk.elim) ?aF ?aO ?aB ?aS ?aL ?_; (case aP => exact rfl); (case aB => exact (by repeat (first | (with_reducible first | exact HB.out | apply lZ | apply pZ | apply dZ) | exact HB.out))); (case aF => exact (fun k_ hk => (.inr (Nat.le_trans (by first | exact HK.out.1 | exact (show Kept w _ (fun k_ => P0_ k_) from by repeat (first | (with_reducible first | exact HK.out | apply Kept.alloc | apply Kept.drewN | apply Kept.drew) | exact HK.out)).1) hk)))); (case aO => exact (by (with_reducible repeat (first | apply Kd.R_alloc | apply Kd.R_drewN | apply Kd.R_drew)); exact HO_0.out)); (case aS => exact (zZ (by repeat (first | (with_reducible first | exact HB.out | apply lZ | apply pZ | apply dZ) | exact HB.out)))); (case aL => have := LMc5.out; omega); intro v469 w6 ho hb hg hat; rw [← Ny468.out] at ho; replace HB := Az.mk (hb); replace HK := Az.mk (Kept.of_grown (S := (fun k_ => P0_ k_)) hg (by repeat (first | (with_reducible first | exact HK.out | apply Kept.alloc | apply Kept.drewN | apply Kept.drew) | exact HK.out)) (fun k_ e_ => (HO_0.out.1 k_ e_))); have HO470 := Az.mk (ho); clear HO_0; clear ho hb hg hat))
     go_roundg k1
     case measure => have := HK1.out; omega
     case rel => exact ⟨(y468), (IntKind.u64.wrap (Int.tdiv x1_1 256)), (wrap64 (x7_1 + 1)), (by first | rfl | (simp; done) | (simp [*]; done)), (by first | rfl | (simp; done) | (simp [*]; done)), H', ⟨by have := HK1.out; omega⟩, ⟨by (with_reducible repeat (first | apply Kd.R_alloc | apply Kd.R_drewN | apply Kd.R_drew)); exact HO470.out⟩, ⟨by repeat (first | (with_reducible first | exact HK.out | apply Kept.alloc | apply Kept.drewN | apply Kept.drew) | exact HK.out)⟩, ⟨by repeat (first | (with_reducible first | exact HB.out | apply lZ | apply pZ | apply dZ) | exact HB.out)⟩⟩
    ·rw [if_neg c5] at H
     exact absurd H (by simp)
   ·rw [if_neg c4] at H
    have c4b0 : decide (x7_1 < a2) = false := decide_eq_false c4
    clear c4
    obtain rfl := Option.some.inj H
    go_wp2
    go_ret
    exact ⟨_, by first | rfl | (simp [errW_none, errW_some] <;> rfl) | (simp [*, errW_none, errW_some] <;> rfl), by (with_reducible repeat (first | apply Kd.R_alloc | apply Kd.R_drewN | apply Kd.R_drew)); exact HO_0.out, by repeat (first | (with_reducible first | exact HB.out | apply lZ | apply pZ | apply dZ) | exact HB.out), by repeat (first | (with_reducible first | exact HK.out | apply Kept.alloc | apply Kept.drewN | apply Kept.drew) | exact HK.out)⟩
def fugueref01_list.l0 : Nat → List Int → List Int → Int → Option (List Int)
 | 0, _, _, _ => none
 | k + 1, x0, x1, x5 => if x5 < (x1.length : Int) then (if 0 ≤ x5 then (if x0.length < 140737488355328 then (fugueref01_list.l0 k (x0 ++ [(rd x1 x5) % 256]) x1 (wrap64 (x5 + 1))) else (none)) else (none)) else (some x0)
def fugueref01_list.f (k : Nat) (l0 : List Int) (l1 : List Int) : Option (List Int) := if l0.length < 140737488355328 then (fugueref01_list.l0 k (l0 ++ [((l1.length : Int)) % 256]) l1 0) else (none)
set_option maxHeartbeats 8000000 in
set_option maxRecDepth 100000 in
theorem fugueref01_list.calls (k : Nat) (P0_ : Nat → Prop) (u9000_ : Value) (l0 : List Int) (A1 : Option Addr) (c1 : Nat) (l1 : List Int) (r : List Int) (w0 w : World) (hB : Below w0.heap.size w0 w) (ho0 : Kd.R (Kd.int .u8) 5 w w0.heap.size P0_ u9000_ l0) (hr1 : ∀ W_, Kept w W_ (fun k_ => P0_ k_) → Kd.C (Kd.int .i64) W_ A1 l1.length l1) (hc1 : l1.length ≤ c1) (h : fugueref01_list.f k l0 l1 = some r) :
  Calls Tryd.prog 86 #[u9000_, .slice A1 l1.length c1] w fun e w' => ∃ v0_ : Value, e = .returned (v0_) ∧ Kd.R (Kd.int .u8) 5 w' w0.heap.size (fun k_ => (P0_ k_ ∨ w.heap.size ≤ k_)) v0_ r ∧ Below w0.heap.size w0 w' ∧ Kept w w' (fun k_ => P0_ k_) := by
 have HO0 := Az.mk (show Kd.R (Kd.int .u8) 5 w w0.heap.size (fun k_ => (P0_ k_ ∨ w.heap.size ≤ k_)) u9000_ l0 from Kd.R_mono ho0 (fun k_ hk => (.inl hk)))
 have HR1 := Az.mk hr1
 have HC1 := Az.mk hc1
 clear hr1 hc1
 have HK := Az.mk (Kept.refl w (fun k_ => P0_ k_))
 have HW0 := Az.mk hB.size
 have HB := Az.mk hB
 clear hB
 have H : (if l0.length < 140737488355328 then (fugueref01_list.l0 k (l0 ++ [((l1.length : Int)) % 256]) l1 0) else (none)) = some r := h
 clear h
 by_cases c3 : l0.length < 140737488355328
 ·rw [if_pos c3] at H
  have LMc3 := Az.mk c3
  clear c3
  obtain ⟨y471, hy471⟩ : ∃ y_ : List Int, y_ = (l0 ++ [((l1.length : Int)) % 256]) := ⟨_, rfl⟩
  replace H : (fugueref01_list.l0 k y471 l1 0) = some r := by first | (rw [hy471]; with_reducible exact H) | (have H2_ := (Option.bind_some _ _).symm.trans H; rw [hy471]; with_reducible exact H2_) | (have H2_ := (Option.bind_some _ _).symm.trans H; with_reducible exact H2_) | with_reducible exact H | (rw [hy471]; exact H) | exact H
  have Ny471 := Az.mk hy471
  clear hy471
  have H' := Az.mk H
  clear H
  go_enter Tryd.func86, Tryd.ntmps86
  go_wp2_with (first | ((with_reducible refine gate_builtin (b := .append) (xs := #[.tmp 6, .tmp 10]) rfl ?_); at_builtin; refine Kd.R_append (Kd.int .u8) (w0 := w0) w0.heap.size rfl (.tmp 6) (.tmp 10) 33 5 (.int .u8 0) 1 rfl Tryd.underlying33 info5 rfl (by decide) (by omega) u9000_ l0 (((l1.length : Int)) % 256) [.int .u8 (((l1.length : Int)) % 256)] (fun k_ => (P0_ k_ ∨ w.heap.size ≤ k_)) (fun _ => False) rfl rfl ?aP (fun _ hk => hk.elim) ?aF ?aO ?aB ?aS ?aL ?_; (case aP => exact rfl); (case aB => exact (by repeat (first | (with_reducible first | exact HB.out | apply lZ | apply pZ | apply dZ) | exact HB.out))); (case aF => exact (fun k_ hk => (.inr (Nat.le_trans (by first | exact HK.out.1 | exact (show Kept w _ (fun k_ => P0_ k_) from by repeat (first | (with_reducible first | exact HK.out | apply Kept.alloc | apply Kept.drewN | apply Kept.drew) | exact HK.out)).1) hk)))); (case aO => exact (by (with_reducible repeat (first | apply Kd.R_alloc | apply Kd.R_drewN | apply Kd.R_drew)); exact HO0.out)); (case aS => exact (zZ (by repeat (first | (with_reducible first | exact HB.out | apply lZ | apply pZ | apply dZ) | exact HB.out)))); (case aL => have := LMc3.out; omega); intro v472 w4 ho hb hg hat; rw [← Ny471.out] at ho; replace HB := Az.mk (hb); replace HK := Az.mk (Kept.of_grown (S := (fun k_ => P0_ k_)) hg (by repeat (first | (with_reducible first | exact HK.out | apply Kept.alloc | apply Kept.drewN | apply Kept.drew) | exact HK.out)) (fun k_ e_ => (HO0.out.1 k_ e_))); have HO473 := Az.mk (ho); clear HO0; clear ho hb hg hat))
  go_loopg [0, 5] k (fun kq v0 v5 w' => ∃ (x0_1 : List Int) (x5_1 : Int), v5 = .int .i64 x5_1 ∧ Az (fugueref01_list.l0 kq x0_1 l1 x5_1 = some r) ∧ Az (kq ≤ k) ∧ Az (Kd.R (Kd.int .u8) 5 w' w0.heap.size (fun k_ => (P0_ k_ ∨ w.heap.size ≤ k_)) v0 x0_1) ∧ Az (Kept w w' (fun k_ => P0_ k_)) ∧ Az (Below w0.heap.size w0 w'))
  case atStart => exact ⟨(y471), (0), (by first | rfl | (simp; done) | (simp [*]; done)), H', ⟨Nat.le_refl _⟩, ⟨by (with_reducible repeat (first | apply Kd.R_alloc | apply Kd.R_drewN | apply Kd.R_drew)); exact HO473.out⟩, ⟨by repeat (first | (with_reducible first | exact HK.out | apply Kept.alloc | apply Kept.drewN | apply Kept.drew) | exact HK.out)⟩, ⟨by repeat (first | (with_reducible first | exact HB.out | apply lZ | apply pZ | apply dZ) | exact HB.out)⟩⟩
  case round =>
   clear H'
   try clear c1
   try clear p2
   try clear c3
   obtain ⟨x0_1, x5_1, rfl, HA, HK1, HO_0, HK, HB⟩ := hrel
   cases gk with
   | zero => exact absurd HA.out (by simp [fugueref01_list.l0])
   | succ k1 =>
    have H := HA.out
    clear HA
    simp only [fugueref01_list.l0] at H
    by_cases c5 : x5_1 < (l1.length : Int)
    ·rw [if_pos c5] at H
     have c5b0 : decide (x5_1 < (l1.length : Int)) = true := decide_eq_true c5
     clear c5
     by_cases c6 : 0 ≤ x5_1
     ·rw [if_pos c6] at H
      have c6b0 : decide (0 ≤ x5_1) = true := decide_eq_true c6
      clear c6
      by_cases c7 : x0_1.length < 140737488355328
      ·rw [if_pos c7] at H
       have LMc7 := Az.mk c7
       clear c7
       obtain ⟨y475, hy475⟩ : ∃ y_ : List Int, y_ = (x0_1 ++ [(rd l1 x5_1) % 256]) := ⟨_, rfl⟩
       replace H : (fugueref01_list.l0 k1 y475 l1 (wrap64 (x5_1 + 1))) = some r := by first | (rw [hy475]; with_reducible exact H) | (have H2_ := (Option.bind_some _ _).symm.trans H; rw [hy475]; with_reducible exact H2_) | (have H2_ := (Option.bind_some _ _).symm.trans H; with_reducible exact H2_) | with_reducible exact H | (rw [hy475]; exact H) | exact H
       have Ny475 := Az.mk hy475
       clear hy475
       have H' := Az.mk H
       clear H
       have p474 : 0 ≤ (x5_1 : Int) := of_decide_eq_true (by first | (with_reducible assumption) | assumption)
       have q474 : x5_1 < (l1.length : Int) := of_decide_eq_true (by first | (with_reducible assumption) | assumption)
       obtain ⟨ad474, e474, hx474_0⟩ := Kd.at_int (Kd.C_kept_now HR1.out HK.out) x5_1 p474 q474
       cases e474
       replace p474 := eq_true p474
       replace q474 := eq_true q474
       go_wp2_with (first | ((with_reducible refine gate_builtin (b := .append) (xs := #[.tmp 18, .tmp 24]) rfl ?_); at_builtin; refine Kd.R_append (Kd.int .u8) (w0 := w0) w0.heap.size rfl (.tmp 18) (.tmp 24) 33 5 (.int .u8 0) 1 rfl Tryd.underlying33 info5 rfl (by decide) (by omega) u0 x0_1 ((rd l1 x5_1) % 256) [.int .u8 ((rd l1 x5_1) % 256)] (fun k_ => (P0_ k_ ∨ w.heap.size ≤ k_)) (fun _ => False) rfl rfl ?aP (fun _ hk => hk.elim) ?aF ?aO ?aB ?aS ?aL ?_; (case aP => exact rfl); (case aB => exact (by repeat (first | (with_reducible first | exact HB.out | apply lZ | apply pZ | apply dZ) | exact HB.out))); (case aF => exact (fun k_ hk => (.inr (Nat.le_trans (by first | exact HK.out.1 | exact (show Kept w _ (fun k_ => P0_ k_) from by repeat (first | (with_reducible first | exact HK.out | apply Kept.alloc | apply Kept.drewN | apply Kept.drew) | exact HK.out)).1) hk)))); (case aO => exact (by (with_reducible repeat (first | apply Kd.R_alloc | apply Kd.R_drewN | apply Kd.R_drew)); exact HO_0.out)); (case aS => exact (zZ (by repeat (first | (with_reducible first | exact HB.out | apply lZ | apply pZ | apply dZ) | exact HB.out)))); (case aL => have := LMc7.out; omega); intro v476 w8 ho hb hg hat; rw [← Ny475.out] at ho; replace HB := Az.mk (hb); replace HK := Az.mk (Kept.of_grown (S := (fun k_ => P0_ k_)) hg (by repeat (first | (with_reducible first | exact HK.out | apply Kept.alloc | apply Kept.drewN | apply Kept.drew) | exact HK.out)) (fun k_ e_ => (HO_0.out.1 k_ e_))); have HO477 := Az.mk (ho); clear HO_0; clear ho hb hg hat))
       go_roundg k1
       case measure => have := HK1.out; omega
       case rel => exact ⟨(y475), (wrap64 (x5_1 + 1)), (by first | rfl | (simp; done) | (simp [*]; done)), H', ⟨by have := HK1.out; omega⟩, ⟨by (with_reducible repeat (first | apply Kd.R_alloc | apply Kd.R_drewN | apply Kd.R_drew)); exact HO477.out⟩, ⟨by repeat (first | (with_reducible first | exact HK.out | apply Kept.alloc | apply Kept.drewN | apply Kept.drew) | exact HK.out)⟩, ⟨by repeat (first | (with_reducible first | exact HB.out | apply lZ | apply pZ | apply dZ) | exact HB.out)⟩⟩
      ·rw [if_neg c7] at H
       exact absurd H (by simp)
     ·rw [if_neg c6] at H
      exact absurd H (by simp)
    ·rw [if_neg c5] at H
     have c5b0 : decide (x5_1 < (l1.length : Int)) = false := decide_eq_false c5
     clear c5
     obtain rfl := Option.some.inj H
     go_wp2
     go_ret
     exact ⟨_, by first | rfl | (simp [errW_none, errW_some] <;> rfl) | (simp [*, errW_none, errW_some] <;> rfl), by (with_reducible repeat (first | apply Kd.R_alloc | apply Kd.R_drewN | apply Kd.R_drew)); exact HO_0.out, by repeat (first | (with_reducible first | exact HB.out | apply lZ | apply pZ | apply dZ) | exact HB.out), by repeat (first | (with_reducible first | exact HK.out | apply Kept.alloc | apply Kept.drewN | apply Kept.drew) | exact HK.out)⟩
 ·rw [if_neg c3] at H
  exact absurd H (by simp)
end Go.Proofs.YteonppgdmhakoaaDoor.PC
namespace Go.Proofs.YteonppgdmhakoaaDoor.PC
open Go.RowKit Go.Proofs.YteonppgdmhakoaaDoorW.PrintWords Go.Proofs.YteonppgdmhakoaaDoorW.PrintLast Go.Proofs.YteonppgdmhakoaaDoorW.PrintMore
attribute [local go_sem] max2_int min2_int max_two min_two max_three min_three max_four min_four
set_option linter.unusedVariables false
set_option linter.unusedSimpArgs false
def fugueref00_WideFullI.l0 : Nat → List Int → List Int → Int → Option (List Int)
 | 0, _, _, _ => none
 | k + 1, x0, x3, x4 => if x4 < (x3.length : Int) then (if 0 ≤ x4 then ((some (x3.set (x4 : Int).toNat (-123456) : List Int)).bind fun y165 => (if x4 < (x0.length : Int) then (fugueref00_WideFullI.l0 k x0 (y165.set (x4 : Int).toNat (rd x0 x4)) (wrap64 (x4 + 1))) else (fugueref00_WideFullI.l0 k x0 y165 (wrap64 (x4 + 1))))) else (none)) else (if 0 ≤ (x0.length : Int) then (if (x0.length : Int) ≤ (x3.length : Int) then (some x3) else (none)) else (none))
def fugueref00_WideFullI.f (k : Nat) (l0 : List Int) : Option (List Int) := if 0 ≤ (wrap64 ((l0.length : Int) + 64)) then (if (wrap64 ((l0.length : Int) + 64) : Int).toNat ≤ 35184372088832 then (fugueref00_WideFullI.l0 k l0 (List.replicate (wrap64 ((l0.length : Int) + 64) : Int).toNat 0) 0) else (none)) else (none)
set_option maxHeartbeats 8000000 in
set_option maxRecDepth 100000 in
theorem fugueref00_WideFullI.calls (k : Nat) (A0 : Option Addr) (c0 : Nat) (l0 : List Int) (r : List Int) (w : World) (hr0 : Kd.C (Kd.int .i64) w A0 l0.length l0) (hc0 : l0.length ≤ c0) (h : fugueref00_WideFullI.f k l0 = some r) :
  Calls Tryd.prog 91 #[.slice A0 l0.length c0] w fun e w' => ∃ (A : Option Addr) (c : Nat), e = .returned (.slice A l0.length c) ∧ Kd.R (Kd.int .i64) 3 w' w.heap.size (fun _ => True) (.slice A r.length c) r ∧ l0.length ≤ r.length ∧ Below w.heap.size w w' := by
 have HR0 := Az.mk hr0
 have HC0 := Az.mk hc0
 clear hr0 hc0
 have HB := Az.mk (Below.refl w.heap.size w)
 have H : (if 0 ≤ (wrap64 ((l0.length : Int) + 64)) then (if (wrap64 ((l0.length : Int) + 64) : Int).toNat ≤ 35184372088832 then (fugueref00_WideFullI.l0 k l0 (List.replicate (wrap64 ((l0.length : Int) + 64) : Int).toNat 0) 0) else (none)) else (none)) = some r := h
 clear h
 obtain ⟨ji2, hji2⟩ : ∃ j_ : Int, (wrap64 ((l0.length : Int) + 64)) = j_ := ⟨_, rfl⟩
 replace H : (if 0 ≤ (ji2) then (if (ji2 : Int).toNat ≤ 35184372088832 then (fugueref00_WideFullI.l0 k l0 (List.replicate (ji2 : Int).toNat 0) 0) else (none)) else (none)) = some r := by first | (rw [hji2] at H; exact H) | (simp only [hji2] at H ⊢; exact H)
 have hji2w : (IntKind.i64.wrap ((l0.length : Int) + 64)) = ji2 := (i64_w _).trans hji2
 by_cases c3 : 0 ≤ (ji2)
 ·rw [if_pos c3] at H
  have c3b0 := eq_true c3
  have c3b1 : decide (0 ≤ (ji2)) = true := decide_eq_true c3
  clear c3
  by_cases c4 : (ji2 : Int).toNat ≤ 35184372088832
  ·rw [if_pos c4] at H
   have c4b0 := eq_true c4
   have c4b1 : decide ((ji2 : Int).toNat ≤ 35184372088832) = true := decide_eq_true c4
   clear c4
   obtain ⟨y162, hy162⟩ : ∃ y_ : List Int, y_ = (List.replicate (ji2 : Int).toNat 0) := ⟨_, rfl⟩
   replace H : (fugueref00_WideFullI.l0 k l0 y162 0) = some r := by first | (rw [hy162]; with_reducible exact H) | (have H2_ := (Option.bind_some _ _).symm.trans H; rw [hy162]; with_reducible exact H2_) | (have H2_ := (Option.bind_some _ _).symm.trans H; with_reducible exact H2_) | with_reducible exact H | (rw [hy162]; exact H) | exact H
   have Ny162 := Az.mk hy162
   clear hy162
   have H' := Az.mk H
   clear H
   go_enter Tryd.func91, Tryd.ntmps91
   go_wp2_with (first | ((with_reducible refine gate_dst (N := 8) rfl ?_); refine Kd.R_make (Kd.int .i64) _ 3 rfl (N := 8) rfl 48 _ _ rfl ji2 rfl rfl Tryd.underlying48 (.int .i64 0) 8 info3 rfl (by decide) (by omega) 0 (ok := fun _ => True) (okp := fun _ => True) rfl (fun _ hk => hk) trivial (of_decide_eq_true (by first | (with_reducible assumption) | assumption)) (Nat.le_trans (Nat.mul_le_mul_right _ (of_decide_eq_true (by first | (with_reducible assumption) | assumption) : ji2.toNat ≤ 35184372088832)) (by omega)) (Below.refl _ _) (Nat.le_refl _) ?_; intro v163 w5 ho6 hb hg_ hnew_; clear hg_ hnew_; (first | rw [← Ny162.out] at ho6 | (simp only [Int.reduceToNat] at ho6; rw [← Ny162.out] at ho6)); have HO164 := Az.mk (Kd.R_lower ho6 (zZ (by repeat (first | (with_reducible first | exact HB.out | apply lZ | apply pZ | apply dZ) | exact HB.out)))); replace HB := Az.mk (tZ (by repeat (first | (with_reducible first | exact HB.out | apply lZ | apply pZ | apply dZ) | exact HB.out)) hb); clear hb ho6))
   go_loopg [4] k (fun kq v4 w' => ∃ (x3_1 : List Int) (x4_1 : Int), v4 = .int .i64 x4_1 ∧ Az (fugueref00_WideFullI.l0 kq l0 x3_1 x4_1 = some r) ∧ Az (kq ≤ k) ∧ Az (Kd.R (Kd.int .i64) 3 w' w.heap.size (fun _ => True) v163 x3_1) ∧ Az (Below w.heap.size w w'))
   case atStart => exact ⟨(y162), (0), (by first | rfl | (simp; done) | (simp [*]; done)), H', ⟨Nat.le_refl _⟩, ⟨by (with_reducible repeat (first | apply Kd.R_alloc | apply Kd.R_drewN | apply Kd.R_drew)); exact HO164.out⟩, ⟨by repeat (first | (with_reducible first | exact HB.out | apply lZ | apply pZ | apply dZ) | exact HB.out)⟩⟩
   case round =>
    clear H'
    try clear p2
    try clear c3
    try clear c3b0
    try clear c3b1
    try clear c4
    try clear c4b0
    try clear c4b1
    try clear p6
    obtain ⟨x3_1, x4_1, rfl, HA, HK1, HO_3, HB⟩ := hrel
    cases gk with
    | zero => exact absurd HA.out (by simp [fugueref00_WideFullI.l0])
    | succ k1 =>
     have H := HA.out
     clear HA
     simp only [fugueref00_WideFullI.l0] at H
     by_cases c7 : x4_1 < (x3_1.length : Int)
     ·rw [if_pos c7] at H
      have c7b0 : decide (x4_1 < (x3_1.length : Int)) = true := decide_eq_true c7
      clear c7
      by_cases c8 : 0 ≤ x4_1
      ·rw [if_pos c8] at H
       have c8b0 : decide (0 ≤ x4_1) = true := decide_eq_true c8
       clear c8
       obtain ⟨y165, hy165⟩ : ∃ y_ : List Int, y_ = (x3_1.set (x4_1 : Int).toNat (-123456)) := ⟨_, rfl⟩
       replace H : (if x4_1 < (l0.length : Int) then (fugueref00_WideFullI.l0 k1 l0 (y165.set (x4_1 : Int).toNat (rd l0 x4_1)) (wrap64 (x4_1 + 1))) else (fugueref00_WideFullI.l0 k1 l0 y165 (wrap64 (x4_1 + 1)))) = some r := by first | (rw [hy165]; with_reducible exact H) | (have H2_ := (Option.bind_some _ _).symm.trans H; rw [hy165]; with_reducible exact H2_) | (have H2_ := (Option.bind_some _ _).symm.trans H; with_reducible exact H2_) | with_reducible exact H | (rw [hy165]; exact H) | exact H
       have Ny165 := Az.mk hy165
       clear hy165
       by_cases c10 : x4_1 < (l0.length : Int)
       ·rw [if_pos c10] at H
        have c10b0 : decide (x4_1 < (l0.length : Int)) = true := decide_eq_true c10
        clear c10
        obtain ⟨y167, hy167⟩ : ∃ y_ : List Int, y_ = (y165.set (x4_1 : Int).toNat (rd l0 x4_1)) := ⟨_, rfl⟩
        replace H : (fugueref00_WideFullI.l0 k1 l0 y167 (wrap64 (x4_1 + 1))) = some r := by first | (rw [hy167]; with_reducible exact H) | (have H2_ := (Option.bind_some _ _).symm.trans H; rw [hy167]; with_reducible exact H2_) | (have H2_ := (Option.bind_some _ _).symm.trans H; with_reducible exact H2_) | with_reducible exact H | (rw [hy167]; exact H) | exact H
        have Ny167 := Az.mk hy167
        clear hy167
        have H' := Az.mk H
        clear H
        obtain ⟨Ao12, co12, eo12⟩ := Kd.R_slice HO_3.out
        subst eo12
        have p9 : 0 ≤ (x4_1 : Int) := of_decide_eq_true (by first | (with_reducible assumption) | assumption)
        have q9 : (x4_1 : Int) < ((x3_1.length : Int) : Int) := of_decide_eq_true (by first | (with_reducible assumption) | assumption)
        obtain ⟨go9, co9, eo9, gb9, gl9, cl9, HG9⟩ := Kd.R_form HO_3.out (by omega)
        (first | cases eo9 | (injection eo9 with ea_ en_ ec_; (first | subst ea_ | (injection ea_ with ea_; subst ea_)); subst ec_; clear en_))
        have GB9 := Az.mk gb9
        have GG9 := Az.mk HG9
        clear gb9 gl9 HG9
        obtain ⟨hx9_0, hf9_0⟩ := Kd.R_celln 0 HO_3.out (x4_1 : Int) p9 q9
        replace p9 := eq_true p9
        replace q9 := eq_true q9
        have HP13 := Kd.R_putg HO_3.out (x4_1 : Int) (-123456)
        go_wp2_with (first | ((with_reducible refine gate_store (t := 3) (p := 17) rfl ?_); refine store_event (t := 3) (p := 17) (v := ?vo_w14) (w1 := (wr.setCell ⟨go9, (x4_1 : Int).toNat, none⟩ (.int .i64 (-123456)))) ?hg ?ho ?hn ?hr ?_; (case ho => rfl); (case hg => rfl); (case hn => rfl); (case hr => first | (go_simp; done) | (go_simp; rfl)); intro w14 hw; have hg : wr.grownBy w14 (some go9) := (by rw [hw]; exact HP13.2); have hp_ : Kd.R (Kd.int .i64) 3 w14 w.heap.size (fun _ => True) (.slice (some ⟨go9, 0, none⟩) x3_1.length co12) y165 := (by rw [hw, Ny165.out]; exact HP13.1); clear HP13; replace HO_3 := Az.mk (hp_); replace HB := Az.mk ((by rw [hw]; exact sZ (HB.out) GB9.out : Below w.heap.size w w14)); clear hg hw hp_; have p166 : 0 ≤ (x4_1 : Int) := of_decide_eq_true (by first | (with_reducible assumption) | assumption); have q166 : x4_1 < (l0.length : Int) := of_decide_eq_true (by first | (with_reducible assumption) | assumption); obtain ⟨ad166, e166, hx166_0⟩ := Kd.at_int HR0.out x4_1 p166 q166; cases e166; replace hx166_0 := (HB.out.cell (World.block_lt_of_cell? w _ hx166_0)).trans hx166_0; replace p166 := eq_true p166; replace q166 := eq_true q166; have p11 : 0 ≤ (x4_1 : Int) := of_decide_eq_true (by first | (with_reducible assumption) | assumption); have q11 : (x4_1 : Int) < ((x3_1.length : Int) : Int) := of_decide_eq_true (by first | (with_reducible assumption) | assumption); obtain ⟨hx11_0, hf11_0⟩ := Kd.R_celln 0 HO_3.out (x4_1 : Int) p11 q11; replace p11 := eq_true p11; replace q11 := eq_true q11; obtain ⟨hy15_, hz15_⟩ := Kd.R_celln 0 HO_3.out (x4_1 : Int) (of_decide_eq_true (by first | (with_reducible assumption) | assumption)) (of_decide_eq_true (by first | (with_reducible assumption) | assumption)); have HP15 := Kd.R_putg HO_3.out (x4_1 : Int) (rd l0 x4_1)) | ((with_reducible refine gate_store (t := 3) (p := 28) rfl ?_); refine store_event (t := 3) (p := 28) (v := ?vo_w16) (w1 := (w14.setCell ⟨go9, (x4_1 : Int).toNat, none⟩ (.int .i64 (rd l0 x4_1)))) ?hg ?ho ?hn ?hr ?_; (case ho => rfl); (case hg => rfl); (case hn => rfl); (case hr => first | (go_simp; done) | (go_simp; rfl)); intro w16 hw; have hg : w14.grownBy w16 (some go9) := (by rw [hw]; exact HP15.2); have hp_ : Kd.R (Kd.int .i64) 3 w16 w.heap.size (fun _ => True) (.slice (some ⟨go9, 0, none⟩) x3_1.length co12) y167 := (by rw [hw, Ny167.out]; exact HP15.1); clear HP15; replace HO_3 := Az.mk (hp_); replace HB := Az.mk ((by rw [hw]; exact sZ (HB.out) GB9.out : Below w.heap.size w w16)); clear hg hw hp_))
        go_roundg k1
        case measure => have := HK1.out; omega
        case rel => exact ⟨(y167), (wrap64 (x4_1 + 1)), (by first | rfl | (simp; done) | (simp [*]; done)), H', ⟨by have := HK1.out; omega⟩, ⟨by (with_reducible repeat (first | apply Kd.R_alloc | apply Kd.R_drewN | apply Kd.R_drew)); exact HO_3.out⟩, ⟨by repeat (first | (with_reducible first | exact HB.out | apply lZ | apply pZ | apply dZ) | exact HB.out)⟩⟩
       ·rw [if_neg c10] at H
        have c10b0 : decide (x4_1 < (l0.length : Int)) = false := decide_eq_false c10
        clear c10
        have H' := Az.mk H
        clear H
        obtain ⟨Ao17, co17, eo17⟩ := Kd.R_slice HO_3.out
        subst eo17
        have p9 : 0 ≤ (x4_1 : Int) := of_decide_eq_true (by first | (with_reducible assumption) | assumption)
        have q9 : (x4_1 : Int) < ((x3_1.length : Int) : Int) := of_decide_eq_true (by first | (with_reducible assumption) | assumption)
        obtain ⟨go9, co9, eo9, gb9, gl9, cl9, HG9⟩ := Kd.R_form HO_3.out (by omega)
        (first | cases eo9 | (injection eo9 with ea_ en_ ec_; (first | subst ea_ | (injection ea_ with ea_; subst ea_)); subst ec_; clear en_))
        have GB9 := Az.mk gb9
        have GG9 := Az.mk HG9
        clear gb9 gl9 HG9
        obtain ⟨hx9_0, hf9_0⟩ := Kd.R_celln 0 HO_3.out (x4_1 : Int) p9 q9
        replace p9 := eq_true p9
        replace q9 := eq_true q9
        have HP18 := Kd.R_putg HO_3.out (x4_1 : Int) (-123456)
        go_wp2_with (first | ((with_reducible refine gate_store (t := 3) (p := 17) rfl ?_); refine store_event (t := 3) (p := 17) (v := ?vo_w19) (w1 := (wr.setCell ⟨go9, (x4_1 : Int).toNat, none⟩ (.int .i64 (-123456)))) ?hg ?ho ?hn ?hr ?_; (case ho => rfl); (case hg => rfl); (case hn => rfl); (case hr => first | (go_simp; done) | (go_simp; rfl)); intro w19 hw; have hg : wr.grownBy w19 (some go9) := (by rw [hw]; exact HP18.2); have hp_ : Kd.R (Kd.int .i64) 3 w19 w.heap.size (fun _ => True) (.slice (some ⟨go9, 0, none⟩) x3_1.length co17) y165 := (by rw [hw, Ny165.out]; exact HP18.1); clear HP18; replace HO_3 := Az.mk (hp_); replace HB := Az.mk ((by rw [hw]; exact sZ (HB.out) GB9.out : Below w.heap.size w w19)); clear hg hw hp_))
        go_roundg k1
        case measure => have := HK1.out; omega
        case rel => exact ⟨(y165), (wrap64 (x4_1 + 1)), (by first | rfl | (simp; done) | (simp [*]; done)), H', ⟨by have := HK1.out; omega⟩, ⟨by (with_reducible repeat (first | apply Kd.R_alloc | apply Kd.R_drewN | apply Kd.R_drew)); exact HO_3.out⟩, ⟨by repeat (first | (with_reducible first | exact HB.out | apply lZ | apply pZ | apply dZ) | exact HB.out)⟩⟩
      ·rw [if_neg c8] at H
       exact absurd H (by simp)
     ·rw [if_neg c7] at H
      have c7b0 : decide (x4_1 < (x3_1.length : Int)) = false := decide_eq_false c7
      clear c7
      by_cases c20 : 0 ≤ (l0.length : Int)
      ·rw [if_pos c20] at H
       have c20b0 := eq_true c20
       have c20b1 : decide (0 ≤ (l0.length : Int)) = true := decide_eq_true c20
       clear c20
       by_cases c21 : (l0.length : Int) ≤ (x3_1.length : Int)
       ·rw [if_pos c21] at H
        have c21b0 := eq_true c21
        have c21b1 : decide ((l0.length : Int) ≤ (x3_1.length : Int)) = true := decide_eq_true c21
        clear c21
        obtain ⟨y168, hy168⟩ : ∃ y_ : List Int, y_ = (x3_1.take ((l0.length : Int) : Int).toNat) := ⟨_, rfl⟩
        have Ny168 := Az.mk hy168
        clear hy168
        obtain rfl := Option.some.inj H
        obtain ⟨Ao22, co22, eo22⟩ := Kd.R_slice HO_3.out
        subst eo22
        have q23 : ((l0.length : Int) : Int) ≤ ((x3_1.length : Int) : Int) := of_decide_eq_true (by first | (with_reducible assumption) | assumption)
        obtain ⟨i023, hi023, _, hsz23, _⟩ := info_parts info3
        have hcut23 := cut_to (P := Tryd.prog) 48 3 .i64 Tryd.underlying48 hi023 Ao22 x3_1.length co22 (l0.length : Int) (of_decide_eq_true (by first | (with_reducible assumption) | assumption)) q23 (Kd.R_reads' HO_3.out).2.1
        have hr23 := Kd.R_take (m := ((l0.length : Int) : Int).toNat) HO_3.out (by omega)
        have hy23 : y168.length = ((l0.length : Int) : Int).toNat := (by rw [Ny168.out, List.length_take]; omega)
        rw [← Ny168.out] at hr23
        have HYl : Az (l0.length = (x3_1.take ((l0.length : Int) : Int).toNat).length) := ⟨by rw [List.length_take]; omega⟩
        rw [← hy23] at hr23 hcut23
        clear hy23 hi023 hsz23
        have HO170 := Az.mk hr23
        clear hr23
        replace q23 := eq_true q23
        go_wp2
        go_ret
        refine ⟨Ao22, co22, ?_, HO_3.out, by have h_ := of_eq_true c21b0; omega, HB.out⟩
        rw [Ny168.out, ← HYl.out]
        rfl
       ·rw [if_neg c21] at H
        exact absurd H (by simp)
      ·rw [if_neg c20] at H
       exact absurd H (by simp)
  ·rw [if_neg c4] at H
   exact absurd H (by simp)
 ·rw [if_neg c3] at H
  exact absurd H (by simp)
theorem cut_capI {P : Program} (t e : TypeId) (kh : IntKind) {i : TypeInfo} (ht : P.underlying t = some (.slice e)) (hi : P.info? e = some i) (A : Option Addr) (n c : Nat) (j : Int) (h0 : 0 ≤ j) (hm : j ≤ c) :
  ∀ W : World, (Instr.slice t (.slice A n c) none (some (.int kh j)) none).run P W = .ok (.slice A j.toNat c) W := by
 intro W
 have hel : P.elem t = e := by simp [Program.elem, ht]
 have hu : P.underlying t = some (.slice (P.elem t)) := by rw [hel]; exact ht
 have ha : (A.map fun x => x.add 0) = A := by cases A <;> simp [Addr.add]
 rw [run_slice_h W t A n c hu kh j h0 hm, hel]
 simp [sizeOf, typeInfo, hi, sliced, Result.andThen, ha]
def markI (i : Int) : Int := -123456
def marksI (n : Nat) : List Int := (List.range 64).map fun j => markI ((n + j : Nat) : Int)
def wideAtI (l : List Int) (j : Nat) : Int := if j < l.length then l.getD j 0 else markI (j : Int)
def wideI (l : List Int) (i : Nat) : List Int := (List.range (l.length + 64)).map fun j => if j < i then wideAtI l j else 0
theorem wideI_len (l : List Int) (i : Nat) : (wideI l i).length = l.length + 64 := by unfold wideI; rw [List.length_map, List.length_range]
theorem wideI_at (l : List Int) (i j : Nat) (h : j < l.length + 64) : (wideI l i)[j]? = some (if j < i then wideAtI l j else 0) := by
 unfold wideI
 rw [List.getElem?_map, List.getElem?_range h]
 rfl
theorem wideI_set (l : List Int) (i : Nat) (h : i < l.length + 64) : (wideI l i).set i (wideAtI l i) = wideI l (i + 1) := by
 apply List.ext_getElem?
 intro j
 by_cases hj : j < l.length + 64
 ·rw [wideI_at l (i + 1) j hj]
  by_cases e : j = i
  ·subst e
   rw [List.getElem?_set_self (by rw [wideI_len]; exact hj), if_pos (Nat.lt_succ_self j)]
  ·rw [List.getElem?_set_ne (fun h => e h.symm), wideI_at l i j hj]
   by_cases hi : j < i
   ·rw [if_pos hi, if_pos (by omega)]
   ·rw [if_neg hi, if_neg (by omega)]
 ·rw [List.getElem?_eq_none (by rw [List.length_set, wideI_len]; omega), List.getElem?_eq_none (by rw [wideI_len]; omega)]
theorem wideI_zero (l : List Int) : wideI l 0 = List.replicate (l.length + 64) 0 := by
 apply List.ext_getElem?
 intro j
 by_cases hj : j < l.length + 64
 ·rw [wideI_at l 0 j hj, if_neg (Nat.not_lt_zero j), List.getElem?_replicate, if_pos hj]
 ·rw [List.getElem?_eq_none (by rw [wideI_len]; omega), List.getElem?_eq_none (by rw [List.length_replicate]; omega)]
theorem marksI_len (n : Nat) : (marksI n).length = 64 := by unfold marksI; rw [List.length_map, List.length_range]
theorem wideI_all (l : List Int) : wideI l (l.length + 64) = l ++ marksI l.length := by
 apply List.ext_getElem?
 intro j
 by_cases hj : j < l.length + 64
 ·rw [wideI_at l _ j hj, if_pos hj]
  unfold wideAtI
  by_cases hl : j < l.length
  ·rw [if_pos hl, List.getElem?_append_left hl, List.getD_eq_getElem?_getD, List.getElem?_eq_getElem hl]
   rfl
  ·rw [if_neg hl, List.getElem?_append_right (by omega)]
   unfold marksI
   rw [List.getElem?_map, List.getElem?_range (by omega)]
   show some (markI (j : Int)) = some (markI ((l.length + (j - l.length) : Nat) : Int))
   rw [show l.length + (j - l.length) = j by omega]
 ·rw [List.getElem?_eq_none (by rw [wideI_len]; omega), List.getElem?_eq_none (by rw [List.length_append, marksI_len]; omega)]
theorem wideI_ev (l : List Int) (hl : l.length ≤ 17592186044416) : Ev (fun k => fugueref00_WideFullI.f k l) (l ++ marksI l.length) := by
 have hw : wrap64 ((l.length : Int) + 64) = ((l.length + 64 : Nat) : Int) := by rw [wrap_in (by omega) (by omega)]; omega
 have gen : ∀ (d i : Nat), l.length + 64 - i = d → i ≤ l.length + 64 → Ev (fun k => fugueref00_WideFullI.l0 k l (wideI l i) (i : Int)) (l ++ marksI l.length) := by
  intro d
  induction d with
  | zero =>
   intro i hd hi
   have e : i = l.length + 64 := by omega
   subst e
   refine Ev.step (f := fun _ => some (l ++ marksI l.length)) (fun k => by
    simp only [fugueref00_WideFullI.l0]
    rw [if_neg (by rw [wideI_len]; omega), if_pos (by omega), if_pos (by rw [wideI_len]; omega), wideI_all]) (Ev.now _)
  | succ d ih =>
   intro i hd hi
   have hlt : i < l.length + 64 := by omega
   have hwp : wrap64 ((i : Int) + 1) = ((i + 1 : Nat) : Int) := by rw [wrap_in (by omega) (by omega)]; omega
   by_cases hn : i < l.length
   ·refine Ev.step (f := fun k => fugueref00_WideFullI.l0 k l (wideI l (i + 1)) ((i + 1 : Nat) : Int)) (fun k => by
     simp only [fugueref00_WideFullI.l0]
     rw [if_pos (by rw [wideI_len]; omega), if_pos (by omega), Option.bind_some, if_pos (by omega), hwp, Int.toNat_natCast, List.set_set, rd_get l i hn]
     have e : l[i] = wideAtI l i := by unfold wideAtI; rw [if_pos hn, List.getD_eq_getElem?_getD, List.getElem?_eq_getElem hn]; rfl
     rw [e, wideI_set l i hlt]) (ih (i + 1) (by omega) (by omega))
   ·refine Ev.step (f := fun k => fugueref00_WideFullI.l0 k l (wideI l (i + 1)) ((i + 1 : Nat) : Int)) (fun k => by
     simp only [fugueref00_WideFullI.l0]
     rw [if_pos (by rw [wideI_len]; omega), if_pos (by omega), Option.bind_some, if_neg (by omega), hwp, Int.toNat_natCast]
     have e : (-123456 : Int) = wideAtI l i := by unfold wideAtI; rw [if_neg hn]; rfl
     rw [e, wideI_set l i hlt]) (ih (i + 1) (by omega) (by omega))
 unfold fugueref00_WideFullI.f
 refine Ev.congr (f := fun k => fugueref00_WideFullI.l0 k l (wideI l 0) ((0 : Nat) : Int)) (fun k => ?_) (gen (l.length + 64) 0 (by omega) (by omega))
 simp only [hw]
 rw [if_pos (by omega), if_pos (by rw [Int.toNat_natCast]; omega), Int.toNat_natCast, ← wideI_zero]
 rfl
theorem spareI (A0 : Option Addr) (c0 n : Nat) (l0 : List Int) (w : World) (hn : n = l0.length) (hl : l0.length ≤ 17592186044416) (hS : Kd.C (Kd.int .i64) w A0 (l0 ++ marksI l0.length).length (l0 ++ marksI l0.length)) (hS2 : (l0 ++ marksI l0.length).length ≤ c0) :
  Calls Tryd.prog 61 #[.slice A0 n c0] w fun e w' => e = .returned (.bool true) ∧ w' = w := by
 obtain ⟨m, hm⟩ : ∃ m, m = n + 64 := ⟨_, rfl⟩
 have hlen : (l0 ++ marksI l0.length).length = m := by rw [List.length_append, marksI_len]; omega
 rw [hlen] at hS2
 have HS : Az (Kd.C (Kd.int .i64) w A0 m (l0 ++ marksI n)) := ⟨by rw [← hlen, hn]; exact hS⟩
 have hw : wrap64 ((n : Int) + 64) = (m : Int) := by rw [wrap_in (by omega) (by omega)]; omega
 have HL : Az (n = l0.length ∧ m = n + 64 ∧ n ≤ 17592186044416) := ⟨hn, hm, by omega⟩
 obtain ⟨i0, hi0, _, hsz, _⟩ := info_parts info3
 have hcut := cut_capI (P := Tryd.prog) 48 3 .i64 Tryd.underlying48 hi0 A0 n c0 (m : Int) (Int.natCast_nonneg m) (by omega)
 rw [Int.toNat_natCast] at hcut
 have HCut := Az.mk hcut
 clear hS hS2 hlen hi0 hsz hn hm hl hcut
 go_enter Tryd.func61, Tryd.ntmps61
 have hcut := HCut.out
 go_wp2_with fail
 go_loopw [4] (fun v4 w' => ∃ q : Nat, n ≤ q ∧ q ≤ m ∧ v4 = .int .i64 (q : Int) ∧ w' = w) (fun i _ => m - (intOf i).toNat)
 case atStart => exact ⟨n, Nat.le_refl _, by have := HL.out; omega, rfl, rfl⟩
 case round =>
  obtain ⟨q, hq0, hq, rfl, rfl⟩ := hrel
  by_cases hlt : q < m
  ·have p0 : (0 : Int) ≤ (q : Int) := Int.natCast_nonneg q
   have p1 : (q : Int) < (m : Int) := Int.ofNat_lt.2 hlt
   have hwp : wrap64 ((q : Int) + 1) = (q : Int) + 1 := wrap_in (by omega) (by have := HL.out; omega)
   obtain ⟨ad, had, hx⟩ := Kd.at_int HS.out (q : Int) p0 p1
   subst had
   rw [Int.toNat_natCast] at hx
   have hv : rd (l0 ++ marksI n) (q : Int) = -123456 := by
    have := HL.out
    rw [rd_get _ q (by rw [List.length_append, marksI_len]; omega), List.getElem_append_right (by omega)]
    unfold marksI markI
    rw [List.getElem_map]
   rw [hv] at hx
   have HLt := Az.mk hlt
   clear hv hlt hq hcut
   go_wp2_with fail
   go_roundw
   case rel => exact ⟨q + 1, by omega, by have := HLt.out; omega, by go_num, by first | trivial | rfl⟩
   case measure => rw [hwp]; exact Nat.sub_lt_sub_left (show q < m from HLt.out) (show q < q + 1 from Nat.lt_succ_self q)
  ·obtain rfl : q = m := by omega
   clear hcut
   go_wp2_with fail
   go_ret
   exact ⟨rfl, rfl⟩
end Go.Proofs.YteonppgdmhakoaaDoor.PC
namespace Go.Proofs.YteonppgdmhakoaaDoor.PC
open Go.RowKit Go.Proofs.YteonppgdmhakoaaDoorW.PrintWords Go.Proofs.YteonppgdmhakoaaDoorW.PrintLast Go.Proofs.YteonppgdmhakoaaDoorW.PrintMore
set_option linter.unusedVariables false
set_option linter.unusedSimpArgs false
def either {α β : Type} (a : Kd α) (b : Kd β) (h : b.sz = a.sz) : Kd (α ⊕ β) where
 sz := a.sz
 E := a.E ++ b.E
 K := fun w x cs => (∀ y, x = .inl y → a.K w y cs) ∧ (∀ y, x = .inr y → b.K w y cs)
 M := fun w base ok x cs => (∀ y, x = .inl y → a.M w base ok y cs) ∧ (∀ y, x = .inr y → b.M w base ok y cs)
 K_len := fun {w x cs} hx => by
  rcases x with y | y
  ·exact a.K_len (hx.1 y rfl)
  ·exact (b.K_len (hx.2 y rfl)).trans h
 K_one := fun {w x cs} hx => by
  rcases x with y | y
  ·exact a.K_one (hx.1 y rfl)
  ·exact b.K_one (hx.2 y rfl)
 K_below := fun hb hx => ⟨fun y e => a.K_below hb (hx.1 y e), fun y e => b.K_below hb (hx.2 y e)⟩
 K_of_M := fun hx => ⟨fun y e => a.K_of_M (hx.1 y e), fun y e => b.K_of_M (hx.2 y e)⟩
 M_mono := fun hok hx => ⟨fun y e => a.M_mono hok (hx.1 y e), fun y e => b.M_mono hok (hx.2 y e)⟩
 M_bound := fun hx => ⟨fun y e => a.M_mono (fun k hk => ⟨hk.1, hk.2.1, hk.2.2.1, by obtain ⟨q, hq, hc⟩ := hk.2.2.2; exact ⟨q, List.mem_append_left _ hq, hc⟩⟩) (a.M_bound (hx.1 y e)), fun y e => b.M_mono (fun k hk => ⟨hk.1, hk.2.1, hk.2.2.1, by obtain ⟨q, hq, hc⟩ := hk.2.2.2; exact ⟨q, List.mem_append_right _ hq, hc⟩⟩) (b.M_bound (hx.2 y e))⟩
 M_move := fun hm hx => ⟨fun y e => a.M_move hm (hx.1 y e), fun y e => b.M_move hm (hx.2 y e)⟩
 M_lower := fun hb hx => ⟨fun y e => a.M_lower hb (hx.1 y e), fun y e => b.M_lower hb (hx.2 y e)⟩
theorem either_inl {α β : Type} {a : Kd α} {b : Kd β} {h : b.sz = a.sz} {w : World} {base : Nat} {ok : Nat → Prop} {y : α} {cs : List Value} (hM : a.M w base ok y cs) : (either a b h).M w base ok (.inl y) cs :=
 ⟨fun z e => by injection e with e; exact e ▸ hM, fun z e => by cases e⟩
theorem either_inr {α β : Type} {a : Kd α} {b : Kd β} {h : b.sz = a.sz} {w : World} {base : Nat} {ok : Nat → Prop} {y : β} {cs : List Value} (hM : b.M w base ok y cs) : (either a b h).M w base ok (.inr y) cs :=
 ⟨fun z e => (by cases e), fun z e => by injection e with e; exact e ▸ hM⟩
def wide {α γ : Type} (e : Nat) (d : Kd γ) (full : List α → List γ) : Kd (List α) where
 sz := 1
 E := e :: d.E
 K := fun w xs cs => ∃ A c, cs = [.slice A xs.length c] ∧ xs.length ≤ (full xs).length ∧ (full xs).length ≤ c ∧ d.C w A (full xs).length (full xs)
 M := fun w base ok xs cs => ∃ A c, cs = [.slice A xs.length c] ∧ xs.length ≤ (full xs).length ∧ Kd.S d e w base ok (.slice A (full xs).length c) (full xs)
 K_len := by
  rintro w x cs ⟨A, c, rfl, _⟩
  rfl
 K_one := by
  rintro w x cs ⟨A, c, rfl, _⟩ u hu
  rw [List.mem_singleton.1 hu]
  rfl
 K_below := by
  rintro w w1 x cs hb ⟨A, c, rfl, h1, h2, hr⟩
  exact ⟨A, c, rfl, h1, h2, Kd.C_below hr hb⟩
 K_of_M := by
  rintro w base ok x cs ⟨A, c, rfl, h1, h⟩
  have h2 := Kd.S_reads' h
  exact ⟨A, c, rfl, h1, h2.2.1, h2.2.2⟩
 M_mono := by
  rintro w base ok ok' x cs hok ⟨A, c, rfl, h1, h⟩
  exact ⟨A, c, rfl, h1, Kd.S_mono h hok⟩
 M_bound := by
  rintro w base ok x cs ⟨A, c, rfl, h1, h⟩
  exact ⟨A, c, rfl, h1, Kd.S_bound h⟩
 M_move := by
  rintro w w1 base ok x cs hm ⟨A, c, rfl, h1, h⟩
  exact ⟨A, c, rfl, h1, Kd.S_move h hm⟩
 M_lower := by
  rintro w base base' ok x cs hb ⟨A, c, rfl, h1, h⟩
  exact ⟨A, c, rfl, h1, Kd.S_lower h hb⟩
def marked {α β : Type} (mk : β) (xs : List α) : List (α ⊕ β) := xs.map .inl ++ List.replicate 64 (.inr mk)
theorem marked_len {α β : Type} (mk : β) (xs : List α) : (marked mk xs).length = xs.length + 64 := by unfold marked; rw [List.length_append, List.length_map, List.length_replicate]
theorem marked_at {α β : Type} (mk : β) (xs : List α) (j : Nat) (h : j < xs.length) : (marked mk xs)[j]? = some (.inl xs[j]) := by
 unfold marked
 rw [List.getElem?_append_left (by rw [List.length_map]; exact h), List.getElem?_map, List.getElem?_eq_getElem h]
 rfl
theorem marked_past {α β : Type} (mk : β) (xs : List α) (j : Nat) (h0 : xs.length ≤ j) (h : j < xs.length + 64) : (marked mk xs)[j]? = some (.inr mk) := by
 unfold marked
 rw [List.getElem?_append_right (by rw [List.length_map]; exact h0), List.length_map, List.getElem?_replicate, if_pos (by omega)]
def fullI (xs : List Int) : List Int := xs ++ marksI xs.length
theorem fullI_len (xs : List Int) : (fullI xs).length = xs.length + 64 := by unfold fullI; rw [List.length_append, marksI_len]
def mark50 : List Value := [.int .i64 (-78), .int .i64 0, .int .i64 0, .int .i64 0, .int .i64 0, .slice none 0 0, .slice none 0 0]
def mark46 : List Value := [.int .i64 0, .int .i64 0, .int .i64 (-77), .slice none 0 0]
def wI : Kd (List Int) := wide 3 (Kd.int .i64) fullI
def k50w : Kd S50 := Kd.iso (Kd.pair (Kd.int .i64) (Kd.pair (Kd.int .i64) (Kd.pair (Kd.int .i64) (Kd.pair (Kd.int .i64) (Kd.pair (Kd.int .i64) (Kd.pair wI wI)))))) (fun x : S50 => (x.f0, x.f1, x.f2, x.f3, x.f4, x.f5, x.f6))
def e50 : Kd (S50 ⊕ List Value) := either k50w (Kd.raw 7) rfl
def wC : Kd (List S50) := wide 50 e50 (marked mark50)
def k46w : Kd S46 := Kd.iso (Kd.pair (Kd.int .i64) (Kd.pair (Kd.int .i64) (Kd.pair (Kd.int .i64) wC))) (fun x : S46 => (x.f0, x.f1, x.f2, x.f3))
def e46 : Kd (S46 ⊕ List Value) := either k46w (Kd.raw 4) rfl
theorem C_head {α γ : Type} {d : Kd α} {d' : Kd γ} {w : World} {A : Option Addr} {xs : List α} {ys : List γ} (h : d'.C w A ys.length ys) (hl : xs.length ≤ ys.length) (hsz : d'.sz = d.sz) (hK : ∀ (j : Nat) (p : α) (cs : List Value), xs[j]? = some p → (∀ q, ys[j]? = some q → d'.K w q cs) → d.K w p cs) : d.C w A xs.length xs := by
 obtain ⟨h1, h2, h3⟩ := h
 refine ⟨rfl, by omega, fun hp => ?_⟩
 obtain ⟨ad, e, hc⟩ := h3 (by omega)
 refine ⟨ad, e, fun j p hj => ?_⟩
 have hjl := (List.getElem?_eq_some_iff.1 hj).1
 obtain ⟨c, hs, hr, hcell⟩ := hc j ys[j] (List.getElem?_eq_getElem (by omega))
 exact ⟨c, hs.trans hsz, hK j p c hj (fun q hq => by rw [List.getElem?_eq_getElem (by omega)] at hq; injection hq with hq; exact hq ▸ hr), fun i u hu => by rw [← hsz]; exact hcell i u hu⟩
theorem wI_K {w : World} {xs : List Int} {cs : List Value} (h : wI.K w xs cs) : (Kd.slice 3 (Kd.int .i64)).K w xs cs := by
 obtain ⟨A, c, rfl, h1, h2, hr⟩ := h
 refine ⟨A, c, rfl, Nat.le_trans h1 h2, C_head hr h1 rfl (fun j p cs hj hq => hq p ?_)⟩
 unfold fullI
 rw [List.getElem?_append_left (List.getElem?_eq_some_iff.1 hj).1]
 exact hj
theorem k50w_K {w : World} {x : S50} {cs : List Value} (h : k50w.K w x cs) : k50.K w x cs := by
 obtain ⟨c0, c1, rfl, h0, d0, d1, rfl, h1, e0, e1, rfl, h2, f0, f1, rfl, h3, g0, g1, rfl, h4, i0, i1, rfl, h5, h6⟩ := h
 exact ⟨_, _, rfl, h0, _, _, rfl, h1, _, _, rfl, h2, _, _, rfl, h3, _, _, rfl, h4, _, _, rfl, wI_K h5, wI_K h6⟩
theorem C_marked {α : Type} {d d' : Kd α} {n : Nat} {hz : (Kd.raw n).sz = d.sz} {w : World} {A : Option Addr} {mk : List Value} {xs : List α} (h : (either d (Kd.raw n) hz).C w A (marked mk xs).length (marked mk xs)) (hsz : d.sz = d'.sz) (hK : ∀ p cs, d.K w p cs → d'.K w p cs) : d'.C w A xs.length xs :=
 C_head h (by rw [marked_len]; omega) hsz (fun j p cs hj hq => hK p cs ((hq (.inl p) (by rw [marked_at mk xs j (List.getElem?_eq_some_iff.1 hj).1]; rw [List.getElem?_eq_getElem (List.getElem?_eq_some_iff.1 hj).1] at hj; injection hj with hj; rw [hj])).1 p rfl))
theorem wC_K {w : World} {xs : List S50} {cs : List Value} (h : wC.K w xs cs) : (Kd.slice 50 k50).K w xs cs := by
 obtain ⟨A, c, rfl, h1, h2, hr⟩ := h
 exact ⟨A, c, rfl, Nat.le_trans h1 h2, C_marked hr rfl (fun p cs hp => k50w_K hp)⟩
theorem k46w_K {w : World} {x : S46} {cs : List Value} (h : k46w.K w x cs) : k46.K w x cs := by
 obtain ⟨c0, c1, rfl, h0, d0, d1, rfl, h1, e0, e1, rfl, h2, h3⟩ := h
 exact ⟨_, _, rfl, h0, _, _, rfl, h1, _, _, rfl, h2, wC_K h3⟩
theorem wide_C46 {w : World} {A : Option Addr} {fs : List S46} (h : e46.C w A (marked mark46 fs).length (marked mark46 fs)) : k46.C w A fs.length fs := C_marked h rfl (fun p cs hp => k46w_K hp)
theorem S_imp {α β : Type} {d : Kd α} {d' : Kd β} {e : Nat} {w : World} {base : Nat} {ok : Nat → Prop} {v : Value} {xs : List α} {ys : List β} (h : Kd.S d e w base ok v xs) (hl : ys.length = xs.length) (hsz : d.sz = d'.sz) (hM : ∀ (j : Nat) (p : β) (q : α) (ok : Nat → Prop) (cs : List Value), ys[j]? = some p → xs[j]? = some q → d.M w base ok q cs → d'.M w base ok p cs) : Kd.S d' e w base ok v ys := by
 obtain ⟨f, h0, inner, ho, hr⟩ := h
 rw [List.length_zipIdx] at ho
 refine ⟨f, h0, inner, ?_, ?_⟩
 ·rw [List.length_zipIdx, hl]
  have e1 : (Kd.tag f d').sz = (Kd.tag f d).sz := hsz.symm
  rw [e1]
  exact ho
 ·refine ⟨by have := hr.1; rw [List.length_zipIdx] at this ⊢; rw [hl, this]; exact congrArg (xs.length * ·) hsz, fun j p hj => ?_⟩
  have hjl : j < ys.length := by have := (List.getElem?_eq_some_iff.1 hj).1; rwa [List.length_zipIdx] at this
  have hp2 : p = (ys[j], j) := by
   rw [List.getElem?_zipIdx, Nat.zero_add, List.getElem?_eq_getElem hjl] at hj
   injection hj with hj
   exact hj.symm
  subst hp2
  have hx : xs[j]? = some xs[j] := List.getElem?_eq_getElem (by omega)
  have h1 := hr.2 j (xs[j], j) (Kd.zip_at hx)
  have e1 : (Kd.tag f d').sz = (Kd.tag f d).sz := hsz.symm
  rw [e1]
  exact hM j ys[j] xs[j] _ _ (List.getElem?_eq_getElem hjl) hx h1
theorem S_head {α : Type} {d d' : Kd α} {e n : Nat} {hz : (Kd.raw n).sz = d.sz} {w : World} {base : Nat} {ok : Nat → Prop} {A : Option Addr} {c : Nat} {mk : List Value} {xs : List α} (h : Kd.S (either d (Kd.raw n) hz) e w base ok (.slice A (marked mk xs).length c) (marked mk xs)) (hsz : d.sz = d'.sz) (hM : ∀ ok p cs, d.M w base ok p cs → d'.M w base ok p cs) : Kd.S d' e w base ok (.slice A xs.length c) xs := by
 have h1 := Kd.S_take h (m := xs.length) (by rw [marked_len]; omega)
 refine S_imp h1 (by rw [List.length_take, marked_len]; omega) hsz (fun j p q ok cs hp hq hx => hM ok p cs ?_)
 have hjl := (List.getElem?_eq_some_iff.1 hp).1
 rw [List.getElem?_take, if_pos hjl, marked_at mk xs j hjl] at hq
 rw [List.getElem?_eq_getElem hjl] at hp
 injection hp with hp
 injection hq with hq
 subst hp
 exact hx.1 _ hq.symm
theorem wI_M {w : World} {base : Nat} {ok : Nat → Prop} {xs : List Int} {cs : List Value} (h : wI.M w base ok xs cs) : (Kd.slice 3 (Kd.int .i64)).M w base ok xs cs := by
 obtain ⟨A, c, rfl, h1, hr⟩ := h
 have h2 := Kd.S_R (Kd.S_take hr h1)
 have e : (fullI xs).take xs.length = xs := by unfold fullI; exact List.take_left
 rw [e] at h2
 exact ⟨_, rfl, h2⟩
theorem k50w_M {w : World} {base : Nat} {ok : Nat → Prop} {x : S50} {cs : List Value} (h : k50w.M w base ok x cs) : k50.M w base ok x cs := by
 obtain ⟨c0, c1, rfl, h0, d0, d1, rfl, h1, e0, e1, rfl, h2, f0, f1, rfl, h3, g0, g1, rfl, h4, i0, i1, rfl, h5, h6⟩ := h
 exact ⟨_, _, rfl, h0, _, _, rfl, h1, _, _, rfl, h2, _, _, rfl, h3, _, _, rfl, h4, _, _, rfl, wI_M h5, wI_M h6⟩
theorem wC_M {w : World} {base : Nat} {ok : Nat → Prop} {xs : List S50} {cs : List Value} (h : wC.M w base ok xs cs) : (Kd.slice 50 k50).M w base ok xs cs := by
 obtain ⟨A, c, rfl, h1, hr⟩ := h
 exact ⟨_, rfl, Kd.S_R (S_head hr rfl (fun ok p cs hp => k50w_M hp))⟩
theorem k46w_M {w : World} {base : Nat} {ok : Nat → Prop} {x : S46} {cs : List Value} (h : k46w.M w base ok x cs) : k46.M w base ok x cs := by
 obtain ⟨c0, c1, rfl, h0, d0, d1, rfl, h1, e0, e1, rfl, h2, h3⟩ := h
 exact ⟨_, _, rfl, h0, _, _, rfl, h1, _, _, rfl, h2, wC_M h3⟩
theorem wide_S46 {w : World} {base : Nat} {ok : Nat → Prop} {A : Option Addr} {c : Nat} {fs : List S46} (h : Kd.S e46 46 w base ok (.slice A (marked mark46 fs).length c) (marked mark46 fs)) : Kd.S k46 46 w base ok (.slice A fs.length c) fs := S_head h rfl (fun ok p cs hp => k46w_M hp)
section
variable {P : Program} {ops : Array Oper} {rest : List Oper} {o : Oper} {a : Act} {Q : Exit → Act → World → Prop} {α : Type}
theorem put_seg {d : Kd α} {n0 : Nat} {hz : (Kd.raw n0).sz = d.sz} {w0 W : World} (base : Nat) (hN : o.dst = none) (hgd : o.guard = none) (t : TypeId) (p x : Operand) (ho : o.op = .store t p x) (e : TypeId) {g n cap o' : Nat} (q j : Nat) (ys : List (α ⊕ List Value)) (x' : α ⊕ List Value) (u : Value) (seg c : List Value) (ok okp okg : Nat → Prop)
  (haddr : a.eval p = .pointer (some ⟨g, o', none⟩)) (hoff : o' = q * d.sz + j) (hx : a.eval x = u) (hu : u.cells.toList = seg) (ht : (P.info? t).map (·.size) = some seg.length) (hone : ∀ q ∈ seg, q.oneCell' = true)
  (HO : Kd.S (either d (Kd.raw n0) hz) e W base (fun k => ok k ∧ ¬ okg k) (.slice (some ⟨g, 0, none⟩) n cap) ys) (hq : q < n) (hc : ys[q]? = some (.inr c)) (hj : j + seg.length ≤ d.sz)
  (hM : (either d (Kd.raw n0) hz).M W base okp x' (c.take j ++ seg ++ c.drop (j + seg.length))) (hokp : ∀ k, okp k → okg k) (hokg : ∀ k, okg k → ok k) (HB : Below base w0 W)
  (h : ∀ w1, Kd.S (either d (Kd.raw n0) hz) e w1 base ok (.slice (some ⟨g, 0, none⟩) n cap) (ys.set q x') → Below base w0 w1 → W.grownBy w1 (some g) → wpList P ops Q rest a w1) : wpList P ops Q (o :: rest) a W := by
 obtain ⟨oki, c', hcl, hM0, hcc, _, hoki, HH⟩ := Kd.S_elem HO (.inr []) (q : Int) (Int.natCast_nonneg q) (by omega)
 rw [Int.toNat_natCast, List.getD_eq_getElem?_getD, hc] at hM0
 have e1 : c' = c := (hM0.2 c rfl).1
 subst e1
 have h2 := Kd.H_store (either d (Kd.raw n0) hz) (w0 := w0) base hN hgd t p x ho e (g := g) (n := n) (cap := cap) (o' := o') (q : Int) j ys x' u seg c' ok (fun k => oki k ∨ okg k) okp haddr (by rw [Int.toNat_natCast]; exact hoff) hx hu ht hone (Kd.H_more HH hokg) (Int.natCast_nonneg q) (by omega) hj hM (fun k hk => .inr (hokp k hk)) HB (ops := ops) (rest := rest) (Q := Q)
 refine h2 (fun w1 hs hb hg => h w1 ?_ hb hg)
 rw [Int.toNat_natCast] at hs
 exact hs
theorem put_raw {d : Kd α} {n0 : Nat} {hz : (Kd.raw n0).sz = d.sz} {w0 W : World} (base : Nat) (hN : o.dst = none) (hgd : o.guard = none) (t : TypeId) (p x : Operand) (ho : o.op = .store t p x) (e : TypeId) {g n cap o' : Nat} (q j : Nat) (ys : List (α ⊕ List Value)) (u : Value) (seg c c2 : List Value) (ok : Nat → Prop)
  (haddr : a.eval p = .pointer (some ⟨g, o', none⟩)) (hoff : o' = q * d.sz + j) (hx : a.eval x = u) (hu : u.cells.toList = seg) (ht : (P.info? t).map (·.size) = some seg.length) (hone : ∀ q ∈ seg, q.oneCell' = true)
  (HO : Kd.S (either d (Kd.raw n0) hz) e W base ok (.slice (some ⟨g, 0, none⟩) n cap) ys) (hq : q < n) (hc : ys[q]? = some (.inr c)) (hj : j + seg.length ≤ d.sz)
  (hc2 : c2 = c.take j ++ seg ++ c.drop (j + seg.length)) (hl : c2.length = n0) (h1 : ∀ u ∈ c2, u.oneCell' = true) (HB : Below base w0 W)
  (h : ∀ w1, Kd.S (either d (Kd.raw n0) hz) e w1 base ok (.slice (some ⟨g, 0, none⟩) n cap) (ys.set q (.inr c2)) → Below base w0 w1 → W.grownBy w1 (some g) → wpList P ops Q rest a w1) : wpList P ops Q (o :: rest) a W :=
 put_seg base hN hgd t p x ho e q j ys (.inr c2) u seg c ok (fun _ => False) (fun _ => False) haddr hoff hx hu ht hone (Kd.S_mono HO (fun k hk => ⟨hk, fun h => h⟩)) hq hc hj (either_inr ⟨hc2.symm, by rw [← hc2]; exact hl, by rw [← hc2]; exact h1⟩) (fun _ h => h) (fun _ h => h.elim) HB h
end
def laidTo {α β : Type} (z mk : β) (xs : List α) (q : Nat) : List (α ⊕ β) := (marked mk xs).take q ++ List.replicate (xs.length + 64 - q) (.inr z)
section
variable {α β : Type} (z mk : β) (xs : List α) (q : Nat)
theorem laidTo_zero : laidTo z mk xs 0 = List.replicate (xs.length + 64) (.inr z) := by unfold laidTo; simp
theorem laidTo_all : laidTo z mk xs (xs.length + 64) = marked mk xs := by unfold laidTo; rw [Nat.sub_self, List.replicate_zero, List.append_nil, List.take_of_length_le (by rw [marked_len]; exact Nat.le_refl _)]
theorem laidTo_len (h : q ≤ xs.length + 64) : (laidTo z mk xs q).length = xs.length + 64 := by
 unfold laidTo
 rw [List.length_append, List.length_take, List.length_replicate, marked_len]
 omega
theorem laidTo_at (h : q < xs.length + 64) : (laidTo z mk xs q)[q]? = some (.inr z) := by
 unfold laidTo
 rw [List.getElem?_append_right (by rw [List.length_take, marked_len]; omega), List.length_take, marked_len, List.getElem?_replicate, if_pos (by omega)]
theorem laidTo_set (h : q < xs.length + 64) (y : α ⊕ β) (hy : (marked mk xs)[q]? = some y) : (laidTo z mk xs q).set q y = laidTo z mk xs (q + 1) := by
 unfold laidTo
 have hl : q = ((marked mk xs).take q).length := by rw [List.length_take, marked_len]; omega
 rw [List.set_append_right _ _ (by omega), ← hl, Nat.sub_self]
 obtain ⟨m, hm⟩ : ∃ m, xs.length + 64 - q = m + 1 := ⟨xs.length + 64 - q - 1, by omega⟩
 rw [hm, List.replicate_succ, List.set_cons_zero, show xs.length + 64 - (q + 1) = m by omega]
 have hq : q < (marked mk xs).length := by rw [marked_len]; exact h
 rw [List.take_succ_eq_append_getElem hq, List.append_assoc]
 rw [List.getElem?_eq_getElem hq] at hy
 injection hy with hy
 rw [hy]
 rfl
end
theorem S_ints {e : Nat} {w : World} {base : Nat} {ok : Nat → Prop} {v : Value} {xs : List Int} (h : (Kd.int .i64).R e w base ok v xs) : Kd.S (Kd.int .i64) e w base ok v xs := Kd.S_bare h
theorem wI_of {w : World} {base : Nat} {A : Option Addr} {c : Nat} {xs : List Int} (h : (Kd.int .i64).R 3 w base (fun _ => True) (.slice A (fullI xs).length c) (fullI xs)) (b : Nat) (hb : b ≤ base) : wI.M w b (fun k => base ≤ k) xs [.slice A xs.length c] :=
 ⟨A, c, rfl, by rw [fullI_len]; omega, Kd.S_lower (Kd.S_mono (Kd.S_bound (S_ints h)) (fun k hk => hk.2.1)) hb⟩
theorem cut_cap {P : Program} (t e : TypeId) (kh : IntKind) {i : TypeInfo} (ht : P.underlying t = some (.slice e)) (hi : P.info? e = some i) (A : Option Addr) (n c : Nat) (j : Int) (h0 : 0 ≤ j) (hm : j ≤ c) :
  ∀ W : World, (Instr.slice t (.slice A n c) none (some (.int kh j)) none).run P W = .ok (.slice A j.toNat c) W := by
 intro W
 have hel : P.elem t = e := by simp [Program.elem, ht]
 have hu : P.underlying t = some (.slice (P.elem t)) := by rw [hel]; exact ht
 have ha : (A.map fun x => x.add 0) = A := by cases A <;> simp [Addr.add]
 rw [run_slice_h W t A n c hu kh j h0 hm, hel]
 simp [sizeOf, typeInfo, hi, sliced, Result.andThen, ha]
theorem size50 : (Tryd.prog.info? 50).map (·.size) = some 7 := by kernel_rfl
theorem size48 : (Tryd.prog.info? 48).map (·.size) = some 1 := by kernel_rfl
theorem size46 : (Tryd.prog.info? 46).map (·.size) = some 4 := by kernel_rfl
def zero50 : List Value := [.int .i64 0, .int .i64 0, .int .i64 0, .int .i64 0, .int .i64 0, .slice none 0 0, .slice none 0 0]
theorem wideints_any (A0 : Option Addr) (c0 n : Nat) (l0 : List Int) (w : World) (hn : n = l0.length) (hr : Kd.C (Kd.int .i64) w A0 l0.length l0) (hc : l0.length ≤ c0) (hl : l0.length ≤ 17592186044416) :
  Calls Tryd.prog 91 #[.slice A0 n c0] w fun e w' => ∃ A c, e = .returned (.slice A n c) ∧ wI.M w' w.heap.size (fun k => w.heap.size ≤ k) l0 [.slice A n c] ∧ Below w.heap.size w w' := by
 subst hn
 obtain ⟨K, hK⟩ := wideI_ev l0 hl
 refine (fugueref00_WideFullI.calls K A0 c0 l0 _ w hr hc (hK K (Nat.le_refl K))).mono ?_
 rintro e w' ⟨A, c, he, hR, hle, hb⟩
 exact ⟨A, c, he, wI_of hR _ (Nat.le_refl _), hb⟩
theorem k50w_mk {w : World} {base : Nat} {ok : Nat → Prop} {x : S50} {v5 v6 : Value} (g5 : wI.M w base ok x.f5 [v5]) (g6 : wI.M w base ok x.f6 [v6]) : k50w.M w base ok x [.int .i64 x.f0, .int .i64 x.f1, .int .i64 x.f2, .int .i64 x.f3, .int .i64 x.f4, v5, v6] :=
 ⟨[.int .i64 x.f0], _, rfl, rfl, [.int .i64 x.f1], _, rfl, rfl, [.int .i64 x.f2], _, rfl, rfl, [.int .i64 x.f3], _, rfl, rfl, [.int .i64 x.f4], _, rfl, rfl, [v5], [v6], rfl, g5, g6⟩
theorem one7 (a b c d e : Int) (A B : Option Addr) (n k m j : Nat) : ∀ u ∈ [Value.int .i64 a, .int .i64 b, .int .i64 c, .int .i64 d, .int .i64 e, .slice A n k, .slice B m j], u.oneCell' = true := by
 intro u hu
 simp only [List.mem_cons, List.not_mem_nil, or_false] at hu
 rcases hu with rfl | rfl | rfl | rfl | rfl | rfl | rfl <;> rfl
theorem one1 (A : Option Addr) (n k : Nat) : ∀ u ∈ [Value.slice A n k], u.oneCell' = true := by
 intro u hu
 rw [List.mem_singleton.1 hu]
 rfl
abbrev eSw (W : World) (b : Nat) (ok : Nat → Prop) (v : Value) (ys : List (S50 ⊕ List Value)) : Prop := Kd.S e50 50 W b ok v ys
set_option maxHeartbeats 8000000 in
set_option maxRecDepth 100000 in
theorem widecode_any (A0 : Option Addr) (c0 n : Nat) (xs : List S50) (w : World) (hn : n = xs.length) (hr : Kd.C k50 w A0 xs.length xs) (hc : xs.length ≤ c0) (hl : xs.length ≤ 1600000000000) (hfit : ∀ (q : Nat) (h : q < xs.length), xs[q].f5.length ≤ 17592186044416 ∧ xs[q].f6.length ≤ 17592186044416) :
  Calls Tryd.prog 56 #[.slice A0 n c0] w fun e w' => ∃ A c, e = .returned (.slice A n c) ∧ eSw w' w.heap.size (fun _ => True) (.slice A (marked mark50 xs).length c) (marked mark50 xs) ∧ Below w.heap.size w w' := by
 obtain ⟨m, hm⟩ : ∃ m, m = n + 64 := ⟨_, rfl⟩
 have hlen : (marked mark50 xs).length = m := by rw [marked_len]; omega
 rw [hlen]
 have HW : Az (wrap64 ((n : Int) + 64) = (m : Int)) := ⟨by rw [wrap_in (by omega) (by omega)]; omega⟩
 have HL : Az (n = xs.length ∧ m = n + 64 ∧ n ≤ 1600000000000) := ⟨hn, hm, by omega⟩
 have HR : Az (Kd.C k50 w A0 n xs) := ⟨by rw [hn]; exact hr⟩
 have HF := Az.mk hfit
 have HB := Az.mk (Below.refl w.heap.size w)
 have hm0 : n ≤ 9223372036854775807 := by omega
 have hm1 : m ≤ 9223372036854775807 := by omega
 clear hr hc hl hfit hm hn hlen
 go_enter Tryd.func56, Tryd.ntmps56
 go_wp2_with ((with_reducible refine gate_dst (N := 8) rfl ?_); refine Kd.S_make e50 (w0 := w) w.heap.size 50 rfl (N := 8) rfl 44 (.tmp 7) (.tmp 7) rfl (m : Int) (congrArg (Value.int .i64) HW.out) (congrArg (Value.int .i64) HW.out) Tryd.underlying44 _ 88 info50 rfl (by decide) (by omega) (.inr zero50) (ok := fun _ => True) (okp := fun _ => True) (either_inr ⟨rfl, rfl, by decide⟩) (fun _ h => h) trivial (Int.natCast_nonneg m) (by rw [Int.toNat_natCast]; have := HL.out; omega) HB.out (Nat.le_refl _) ?_; intro v1 w1 hs hb hg _; rw [Int.toNat_natCast] at hs; obtain ⟨A1, c1, e1⟩ := Kd.S_slice hs; rw [List.length_replicate] at e1; subst e1; have HS := Az.mk hs; have HB1 := Az.mk hb; have hle : Az (m ≤ c1) := ⟨(Kd.S_reads' hs).2.1⟩; clear hs hb hg)
 obtain ⟨g, e1⟩ : ∃ g, A1 = some ⟨g, 0, none⟩ := by
  obtain ⟨g, cap, e, _⟩ := Kd.S_form HS.out (by rw [List.length_replicate]; have := HL.out; omega)
  injection e with e
  exact ⟨g, e⟩
 subst e1
 have HS0 : Az (eSw w1 w.heap.size (fun _ => True) (.slice (some ⟨g, 0, none⟩) m c1) (laidTo zero50 mark50 xs 0)) := ⟨by rw [laidTo_zero, ← HL.out.1, ← HL.out.2.1]; exact HS.out⟩
 clear HS
 go_loopw [4] (fun v4 w' => ∃ q : Nat, q ≤ m ∧ v4 = .int .i64 (q : Int) ∧ Az (eSw w' w.heap.size (fun _ => True) (.slice (some ⟨g, 0, none⟩) m c1) (laidTo zero50 mark50 xs q)) ∧ Az (Below w.heap.size w w')) (fun i _ => m - (intOf i).toNat)
 case atStart => exact ⟨0, Nat.zero_le _, rfl, HS0, HB1⟩
 case round =>
  obtain ⟨q, hq, rfl, HS', HB'⟩ := hrel
  clear HS0 HB1
  by_cases hlt : q < m
  ·have hwp : wrap64 ((q : Int) + 1) = (q : Int) + 1 := wrap_in (by omega) (by have := HL.out; omega)
   have HQ : Az (q < xs.length + 64) := ⟨by have := HL.out; omega⟩
   by_cases hlx : q < n
   ·obtain ⟨ad, A5, c5, A6, c6, e0, h0, h1, h2, h3, h4, h5, h6, hl5, hi5, hl6, hi6⟩ := at_T50 HR.out (q : Int) (Int.natCast_nonneg q) (Int.ofNat_lt.2 hlx)
    cases e0
    have hqx : q < xs.length := by have := HL.out; omega
    obtain ⟨x, hx⟩ : ∃ x, x = rd_T50 xs (q : Int) := ⟨_, rfl⟩
    rw [← hx] at h0 h1 h2 h3 h4 h5 h6 hl5 hi5 hl6 hi6
    have hx2 : xs[q] = x := by rw [hx]; unfold rd_T50; rw [Int.toNat_natCast, List.getD_eq_getElem?_getD, List.getElem?_eq_getElem hqx]; rfl
    have hf := HF.out q hqx
    rw [hx2] at hf
    have HX : Az ((marked mark50 xs)[q]? = some (.inl x)) := ⟨by rw [marked_at _ _ _ hqx, hx2]⟩
    have Hf5 := Az.mk hf.1
    have Hf6 := Az.mk hf.2
    rw [Int.toNat_natCast] at h0 h1 h2 h3 h4 h5 h6
    have H0 := Az.mk h0
    have H1 := Az.mk h1
    have H2 := Az.mk h2
    have H3 := Az.mk h3
    have H4 := Az.mk h4
    have H5 := Az.mk h5
    have H6 := Az.mk h6
    have Hl5 := Az.mk hl5
    have Hl6 := Az.mk hl6
    have Hi5 := Az.mk hi5
    have Hi6 := Az.mk hi6
    have HLt := Az.mk hlt
    have HQl : Az (q < (laidTo zero50 mark50 xs q).length) := ⟨by rw [laidTo_len _ _ _ _ (by have := HQ.out; omega)]; exact HQ.out⟩
    have hm5 : x.f5.length ≤ 9223372036854775807 := by omega
    have hm6 : x.f6.length ≤ 9223372036854775807 := by omega
    clear h0 h1 h2 h3 h4 h5 h6 hl5 hi5 hl6 hi6 hx hx2 hf
    go_wp2_with (first | ((with_reducible refine gate_ (.store 50 (.tmp 18) (.tmp 17)) rfl ?_); refine put_raw (d := k50w) (w0 := w) w.heap.size rfl rfl 50 (.tmp 18) (.tmp 17) rfl 50 q 0 (laidTo zero50 mark50 xs q) _ mark50 zero50 mark50 (fun _ => True) rfl rfl rfl rfl size50 (one7 _ _ _ _ _ _ _ _ _ _ _) HS'.out HLt.out (laidTo_at _ _ _ _ HQ.out) (Nat.le_refl 7) rfl rfl (one7 _ _ _ _ _ _ _ _ _ _ _) HB'.out ?_; intro w2 hs hb hg; have HS2 := Az.mk hs; have HB2 := Az.mk hb; have y0 := (HB2.out.cell (World.block_lt_of_cell? w _ H0.out)).trans H0.out; have y1 := (HB2.out.cell (World.block_lt_of_cell? w _ H1.out)).trans H1.out; have y2 := (HB2.out.cell (World.block_lt_of_cell? w _ H2.out)).trans H2.out; have y3 := (HB2.out.cell (World.block_lt_of_cell? w _ H3.out)).trans H3.out; have y4 := (HB2.out.cell (World.block_lt_of_cell? w _ H4.out)).trans H4.out; have y5 := (HB2.out.cell (World.block_lt_of_cell? w _ H5.out)).trans H5.out; have y6 := (HB2.out.cell (World.block_lt_of_cell? w _ H6.out)).trans H6.out; clear hs hb hg) | ((with_reducible refine gate_ (.store 50 (.tmp 29) (.tmp 28)) rfl ?_); refine put_raw (d := k50w) (w0 := w) w.heap.size rfl rfl 50 (.tmp 29) (.tmp 28) rfl 50 q 0 ((laidTo zero50 mark50 xs q).set q (.inr mark50)) _ [.int .i64 x.f0, .int .i64 x.f1, .int .i64 x.f2, .int .i64 x.f3, .int .i64 x.f4, .slice A5 x.f5.length c5, .slice A6 x.f6.length c6] mark50 [.int .i64 x.f0, .int .i64 x.f1, .int .i64 x.f2, .int .i64 x.f3, .int .i64 x.f4, .slice A5 x.f5.length c5, .slice A6 x.f6.length c6] (fun _ => True) rfl rfl rfl rfl size50 (one7 _ _ _ _ _ _ _ _ _ _ _) HS2.out HLt.out (List.getElem?_set_self HQl.out) (Nat.le_refl 7) rfl rfl (one7 _ _ _ _ _ _ _ _ _ _ _) HB2.out ?_; intro w3 hs hb hg; rw [List.set_set] at hs; have HG : Az (g < w3.heap.size) := ⟨Kd.S_lt hs g (by simp [Value.ownBlock])⟩; have HS3 : Az (eSw w3 w.heap.size (fun k => k < w3.heap.size) (.slice (some ⟨g, 0, none⟩) m c1) ((laidTo zero50 mark50 xs q).set q (.inr [.int .i64 x.f0, .int .i64 x.f1, .int .i64 x.f2, .int .i64 x.f3, .int .i64 x.f4, .slice A5 x.f5.length c5, .slice A6 x.f6.length c6]))) := ⟨Kd.S_mono (Kd.S_bound hs) (fun k hk => hk.2.2.1)⟩; have HB3 := Az.mk hb; clear hs hb hg y0 y1 y2 y3 y4 y5 y6; have y5 := (HB3.out.cell (World.block_lt_of_cell? w _ H5.out)).trans H5.out) | (go_at_call 91; (with_reducible refine (wideints_any A5 c5 x.f5.length x.f5 w3 rfl (Kd.C_below Hi5.out HB3.out) Hl5.out Hf5.out).mono ?_); rintro e w4 ⟨B5, b5, rfl, hM, hb⟩; have HM5 := Az.mk hM; have HB4 := Az.mk (HB3.out.trans (hb.mono HB3.out.size)); have HS4 := Az.mk (Kd.S_below HS3.out hb); have HZ4 := Az.mk hb.size; clear hM hb y5) | ((with_reducible refine gate_ (.store 48 (.tmp 39) (.tmp 37)) rfl ?_); refine put_raw (d := k50w) (w0 := w) w.heap.size rfl rfl 48 (.tmp 39) (.tmp 37) rfl 50 q 5 ((laidTo zero50 mark50 xs q).set q (.inr [.int .i64 x.f0, .int .i64 x.f1, .int .i64 x.f2, .int .i64 x.f3, .int .i64 x.f4, .slice A5 x.f5.length c5, .slice A6 x.f6.length c6])) _ [.slice B5 x.f5.length b5] [.int .i64 x.f0, .int .i64 x.f1, .int .i64 x.f2, .int .i64 x.f3, .int .i64 x.f4, .slice A5 x.f5.length c5, .slice A6 x.f6.length c6] [.int .i64 x.f0, .int .i64 x.f1, .int .i64 x.f2, .int .i64 x.f3, .int .i64 x.f4, .slice B5 x.f5.length b5, .slice A6 x.f6.length c6] (fun k => k < w3.heap.size) rfl rfl rfl rfl size48 (one1 _ _ _) HS4.out HLt.out (List.getElem?_set_self HQl.out) (show (6 : Nat) ≤ 7 by omega) rfl rfl (one7 _ _ _ _ _ _ _ _ _ _ _) HB4.out ?_; intro w5 hs hb hg; rw [List.set_set] at hs; have HS5 := Az.mk hs; have HB5 := Az.mk hb; have HM5b := Az.mk (Kd.M_grown HM5.out hg (fun k hk e => by injection e with e; have := HG.out; omega)); have HZ5 : Az (w3.heap.size ≤ w5.heap.size) := ⟨Nat.le_trans HZ4.out hg.size⟩; clear hs hb hg; have y6 := (HB5.out.cell (World.block_lt_of_cell? w _ H6.out)).trans H6.out) | (go_at_call 91; (with_reducible refine (wideints_any A6 c6 x.f6.length x.f6 w5 rfl (Kd.C_below Hi6.out HB5.out) Hl6.out Hf6.out).mono ?_); rintro e w6 ⟨B6, b6, rfl, hM, hb⟩; have HM6 := Az.mk (wI.M_mono (fun k hk => Nat.le_trans HZ5.out hk) (wI.M_lower (Nat.le_trans HB5.out.size (Nat.le_refl _)) hM)); have HM5c := Az.mk (Kd.M_below HM5b.out hb); have HB6 := Az.mk (HB5.out.trans (hb.mono HB5.out.size)); have HS6 := Az.mk (Kd.S_below HS5.out hb); clear hM hb y6) | ((with_reducible refine gate_ (.store 48 (.tmp 49) (.tmp 47)) rfl ?_); refine put_seg (d := k50w) (w0 := w) w.heap.size rfl rfl 48 (.tmp 49) (.tmp 47) rfl 50 q 6 ((laidTo zero50 mark50 xs q).set q (.inr [.int .i64 x.f0, .int .i64 x.f1, .int .i64 x.f2, .int .i64 x.f3, .int .i64 x.f4, .slice B5 x.f5.length b5, .slice A6 x.f6.length c6])) (.inl x) _ [.slice B6 x.f6.length b6] [.int .i64 x.f0, .int .i64 x.f1, .int .i64 x.f2, .int .i64 x.f3, .int .i64 x.f4, .slice B5 x.f5.length b5, .slice A6 x.f6.length c6] (fun _ => True) (fun k => w3.heap.size ≤ k) (fun k => w3.heap.size ≤ k) rfl rfl rfl rfl size48 (one1 _ _ _) (Kd.S_mono HS6.out (fun k hk => ⟨trivial, Nat.not_le.2 hk⟩)) HLt.out (List.getElem?_set_self HQl.out) (Nat.le_refl 7) (either_inl (k50w_mk (wI.M_lower HB3.out.size HM5c.out) HM6.out)) (fun _ h => h) (fun _ _ => trivial) HB6.out ?_; intro w7 hs hb hg; rw [List.set_set, laidTo_set _ _ _ _ HQ.out _ HX.out] at hs; have HS7 := Az.mk hs; have HB7 := Az.mk hb; clear hs hb hg))
    go_roundw
    case rel => exact ⟨q + 1, by have := HLt.out; omega, by go_num, HS7, HB7⟩
    case measure => exact Nat.sub_lt_sub_left (show q < m from HLt.out) (show q < q + 1 from Nat.lt_succ_self q)
   ·have HX : Az ((marked mark50 xs)[q]? = some (.inr mark50)) := ⟨marked_past _ _ _ (by have := HL.out; omega) HQ.out⟩
    have HLt := Az.mk hlt
    go_wp2_with ((with_reducible refine gate_ (.store 50 (.tmp 18) (.tmp 17)) rfl ?_); refine put_raw (d := k50w) (w0 := w) w.heap.size rfl rfl 50 (.tmp 18) (.tmp 17) rfl 50 q 0 (laidTo zero50 mark50 xs q) _ mark50 zero50 mark50 (fun _ => True) rfl rfl rfl rfl size50 (one7 _ _ _ _ _ _ _ _ _ _ _) HS'.out HLt.out (laidTo_at _ _ _ _ HQ.out) (Nat.le_refl 7) rfl rfl (one7 _ _ _ _ _ _ _ _ _ _ _) HB'.out ?_; intro w2 hs hb hg; rw [laidTo_set _ _ _ _ HQ.out _ HX.out] at hs; have HS2 := Az.mk hs; have HB2 := Az.mk hb; clear hs hb hg)
    go_roundw
    case rel => exact ⟨q + 1, by have := HLt.out; omega, by go_num, HS2, HB2⟩
    case measure => exact Nat.sub_lt_sub_left (show q < m from HLt.out) (show q < q + 1 from Nat.lt_succ_self q)
  ·obtain rfl : q = m := by omega
   obtain ⟨i0, hi0, _, hsz, _⟩ := info_parts info50
   have hcut := cut_cap (P := Tryd.prog) 44 50 .i64 Tryd.underlying44 hi0 (some ⟨g, 0, none⟩) q c1 (n : Int) (Int.natCast_nonneg n) (by have := HL.out; have := hle.out; omega)
   rw [Int.toNat_natCast] at hcut
   clear hi0 hsz hlt
   go_wp2_with fail
   go_ret
   have he : laidTo zero50 mark50 xs q = marked mark50 xs := by rw [HL.out.2.1, HL.out.1]; exact laidTo_all _ _ _
   exact ⟨_, _, rfl, he ▸ HS'.out, HB'.out⟩
end Go.Proofs.YteonppgdmhakoaaDoor.PC
