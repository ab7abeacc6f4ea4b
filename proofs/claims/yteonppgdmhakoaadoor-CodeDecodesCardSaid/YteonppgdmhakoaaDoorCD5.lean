/- What a proof of this seat needs, laid together by a program of the session's. No conditions. -/
import Derived.Test.YteonppgdmhakoaaDoorCD4
import Derived.Laws.ResultCell
import Derived.Test.YteonppgdmhakoaaDoorCD3
namespace Go.Proofs.YteonppgdmhakoaaDoor.PC
open Go.RowKit Go.Proofs.YteonppgdmhakoaaDoorW.PrintWords Go.Proofs.YteonppgdmhakoaaDoorW.PrintLast Go.Proofs.YteonppgdmhakoaaDoorW.PrintMore
set_option linter.unusedVariables false
set_option linter.unusedSimpArgs false
section
variable {Wz w0 w w' : World} {gr g : Nat} {G : Int} {A : Option Addr} {m c : Nat} {locs err : Int} {Ab : Option Addr} {nb cb : Nat} {at_ from_ off : Int}
theorem Rw.gb (h : Rw Wz w0 w gr g G A m c locs err Ab nb cb at_ from_ off) {b : Nat} {o : Obj} (hb : w.heap[b]? = some o) {w1 : World} {m' c' : Nat} {A' : Option Addr} {locs' err' at' from' off' : Int} (k : Rw Wz w w1 gr g G A' m' c' locs' err' Ab nb cb at' from' off') (h1 : b ≠ gr) (h2 : b ≠ g) : w1.heap[b]? = some o :=
 (k.kp b (blk_lt hb) h1 h2).trans hb
def VarPost (Wz w0 : World) (gr g : Nat) (G : Int) (A : Option Addr) (m c : Nat) (locs : Int) (Ab : Option Addr) (nb cb : Nat) (from_ off : Int) (bs : List Int) (p : Nat) (V : Int) (r : Ending) (w' : World) : Prop :=
 (p + 1 ≤ nb → bs.getD p 0 < V → r = .returned (.int .i64 (bs.getD p 0)) ∧ Rw Wz w0 w' gr g G A m c locs 0 Ab nb cb ((p + 1 : Nat) : Int) p off) ∧
 (p + 1 ≤ nb → ¬ bs.getD p 0 < V → (∃ v, r = .returned (.int .i64 v)) ∧ Rw Wz w0 w' gr g G A m c locs 13 Ab nb cb ((p + 1 : Nat) : Int) p p) ∧
 (¬ p + 1 ≤ nb → (∃ v, r = .returned (.int .i64 v)) ∧ Rw Wz w0 w' gr g G A m c locs 11 Ab nb cb p from_ nb)
set_option maxHeartbeats 8000000 in
set_option maxRecDepth 100000 in
theorem rdvar_any (P R V : Int) (A3 : Option Addr) (n3 c3 : Nat) (bs : List Int) (p : Nat) (h : Rw Wz w0 w gr g G A m c locs 0 Ab nb cb (p : Int) from_ off) (hn : nb = bs.length) (hB : kB.C Wz Ab nb bs) (hby : ∀ x ∈ bs, 0 ≤ x ∧ x ≤ 255) (hp : p ≤ nb) :
  Calls Tryd.prog 88 #[.pointer (some ⟨gr, 0, none⟩), .agg #[.int .i64 P, .int .i64 R, .int .i64 V, .slice A3 n3 c3]] w fun r w' => VarPost Wz w0 gr g G A m c locs Ab nb cb from_ off bs p V r w' := by
 have HH := Aside0.mk h
 have HB := Aside0.mk (Below.refl w.heap.size w)
 have HGr : Aside0 (gr < w.heap.size ∧ g < w.heap.size) := ⟨blk_lt h.rb, blk_lt h.wb⟩
 have HBs := Aside0.mk hB
 have HBy := Aside0.mk hby
 have Hn := Aside0.mk hn
 have Hp := Aside0.mk hp
 have HNo := Aside0.mk (num_one bs p hby)
 clear h hB hby hn hp
 by_cases h1 : p + 1 ≤ nb
 ·go_enter Tryd.func88, Tryd.ntmps88
  go_wp2_with ((with_reducible refine gate_dst (N := 3) rfl ?_); refine box_event ?hg (N := 3) ?hd (cs := #[.int .i64 P, .int .i64 R, .int .i64 V, .slice A3 n3 c3]) (t := 46) ?hr ?_; (case hd => rfl); (case hg => rfl); (case hr => first | (go_simp; done) | (go_simp; rfl)); intro g3 hg w3 hbox hb; have G3 : Aside0 (w.heap.size ≤ g3) := ⟨by have := HB.out.size; omega⟩; replace HB := Aside0.mk (HB.out.trans (hb.mono HB.out.size)); replace HH := Aside0.mk (HH.out.below hb); have BK3 := Aside0.mk hbox; clear hg hbox hb; have NE : Aside0 (g3 ≠ gr ∧ g3 ≠ g) := ⟨by have := G3.out; have := HGr.out; omega⟩)
  refine (rthing_ok 1 (by omega) bs p HH.out.at2 Hn.out HBs.out HBy.out h1).mono ?_
  rintro r w1 ⟨rfl, hR⟩
  rw [HNo.out]
  have B3 := Aside0.mk (HH.out.gb BK3.out hR NE.out.1 NE.out.2)
  have H2 := Aside0.mk (HH.out.trans hR)
  clear HH BK3 hR
  have y2 : w1.cell? ⟨g3, 2, none⟩ = some (.int .i64 V) := (blk_cell B3.out 2).trans rfl
  obtain ⟨v, hv⟩ : ∃ v, v = bs.getD p 0 := ⟨_, rfl⟩
  have HV := Aside0.mk hv
  rw [← hv]
  clear hv
  go_wp2_with fail
  refine (rmust_any _ _ H2.out).mono ?_
  rintro r w2 ⟨rfl, hR⟩
  have H3 := Aside0.mk hR
  clear hR y2
  go_wp2_with fail
  go_ret
  refine ⟨fun _ h2 => ⟨by rw [HV.out]; rfl, ?_⟩, fun _ h2 => ⟨⟨_, rfl⟩, ?_⟩, fun h2 => absurd h1 h2⟩
  ·have h := H3.out
   rw [HV.out, decide_eq_true h2] at h
   exact h
  ·have h := H3.out
   rw [HV.out, decide_eq_false h2] at h
   exact h
 ·go_enter Tryd.func88, Tryd.ntmps88
  go_wp2_with ((with_reducible refine gate_dst (N := 3) rfl ?_); refine box_event ?hg (N := 3) ?hd (cs := #[.int .i64 P, .int .i64 R, .int .i64 V, .slice A3 n3 c3]) (t := 46) ?hr ?_; (case hd => rfl); (case hg => rfl); (case hr => first | (go_simp; done) | (go_simp; rfl)); intro g3 hg w3 hbox hb; have G3 : Aside0 (w.heap.size ≤ g3) := ⟨by have := HB.out.size; omega⟩; replace HB := Aside0.mk (HB.out.trans (hb.mono HB.out.size)); replace HH := Aside0.mk (HH.out.below hb); have BK3 := Aside0.mk hbox; clear hg hbox hb; have NE : Aside0 (g3 ≠ gr ∧ g3 ≠ g) := ⟨by have := G3.out; have := HGr.out; omega⟩)
  refine (rthing_short 1 (by omega) bs p HH.out.at2 Hn.out HBs.out (by omega) Hp.out).mono ?_
  rintro r w1 ⟨rfl, hR⟩
  have B3 := Aside0.mk (HH.out.gb BK3.out hR NE.out.1 NE.out.2)
  have H2 := Aside0.mk (HH.out.trans hR)
  clear HH BK3 hR
  have y2 : w1.cell? ⟨g3, 2, none⟩ = some (.int .i64 V) := (blk_cell B3.out 2).trans rfl
  go_wp2_with fail
  refine (rmust_any _ _ H2.out).mono ?_
  rintro r w2 ⟨rfl, hR⟩
  have H3 := Aside0.mk hR
  clear hR y2
  go_wp2_with fail
  go_ret
  refine ⟨fun h2 => absurd h2 h1, fun h2 => absurd h2 h1, fun h2 => ⟨⟨_, rfl⟩, ?_⟩⟩
  have h := H3.out
  rw [mustE_ne (show (11 : Int) ≠ 0 by decide)] at h
  exact h
end
section
variable {Wz w0 w w' : World} {gr g : Nat} {G : Int} {A : Option Addr} {m c : Nat} {locs err : Int} {Ab : Option Addr} {nb cb : Nat} {at_ from_ off : Int}
def szP (p : Int) : Nat := if p = 105 then 8 else if p = 70 then 2 else if p = 74 then 2 else 1
def RdNum (Wz w0 : World) (gr g : Nat) (G : Int) (A : Option Addr) (m c : Nat) (locs : Int) (Ab : Option Addr) (nb cb : Nat) (from_ off : Int) (bs : List Int) (q k : Nat) (e : Int → Int) (r : Ending) (w' : World) : Prop :=
 (q + k ≤ nb → r = .returned (.int .i64 (wrap64 (upN bs q k k))) ∧ Rw Wz w0 w' gr g G A m c locs (e (wrap64 (upN bs q k k))) Ab nb cb ((q + k : Nat) : Int) q (toldO true (e (wrap64 (upN bs q k k))) q off)) ∧
 (¬ q + k ≤ nb → (∃ v, r = .returned (.int .i64 v)) ∧ Rw Wz w0 w' gr g G A m c locs 11 Ab nb cb q from_ nb)
set_option maxHeartbeats 8000000 in
set_option maxRecDepth 100000 in
theorem rdnum_any (p n : Int) (bs : List Int) (q : Nat) (h : Rw Wz w0 w gr g G A m c locs 0 Ab nb cb (q : Int) from_ off) (hn : nb = bs.length) (hB : kB.C Wz Ab nb bs) (hby : ∀ x ∈ bs, 0 ≤ x ∧ x ≤ 255) (hp : q ≤ nb) :
  Calls Tryd.prog 90 #[.pointer (some ⟨gr, 0, none⟩), .int .u8 p, .int .i64 n] w fun r w' => RdNum Wz w0 gr g G A m c locs Ab nb cb from_ off bs q (szP p) (fun v => mustE (numB_ G m n p v) (numC_ p) 0) r w' := by
 have HH := Aside0.mk h
 have HBs := Aside0.mk hB
 have HBy := Aside0.mk hby
 have Hn := Aside0.mk hn
 have Hp := Aside0.mk hp
 clear h hB hby hn hp
 have fin : ∀ (k : Nat), 1 ≤ k ∧ k ≤ 8 → szP p = k → True := fun _ _ _ => trivial
 clear fin
 by_cases c105 : p = 105
 ·have eS : szP p = 8 := by unfold szP; rw [if_pos c105]
  rw [eS]
  subst c105
  clear eS
  by_cases h1 : q + 8 ≤ nb
  ·go_enter Tryd.func90, Tryd.ntmps90
   go_wp2_with fail
   refine (rthing_ok 8 (by omega) bs q HH.out.at2 Hn.out HBs.out HBy.out h1).mono ?_
   rintro r w1 ⟨rfl, hR⟩
   have H2 := Aside0.mk (HH.out.trans hR)
   clear HH hR
   obtain ⟨v, hv⟩ : ∃ v, v = wrap64 (upN bs q 8 8) := ⟨_, rfl⟩
   rw [← hv]
   have HV := Aside0.mk hv
   clear hv
   go_wp2_with fail
   refine (ropen_any H2.out).mono ?_
   rintro r w2 ⟨rfl, rfl⟩
   rw [show ((0 : Int) == 0) = true from rfl]
   have r0 := H2.out.r0
   go_wp2_with fail
   refine (wnum_any _ _ _ H2.out.walk).mono ?_
   rintro r w3 ⟨rfl, hW⟩
   have H3 := Aside0.mk (H2.out.walked hW)
   clear hW r0 H2
   have r3 := H3.out.r3
   go_wp2_with fail
   refine (rtold_any _ _ H3.out).mono ?_
   rintro r w4 ⟨rfl, hR⟩
   have H4 := Aside0.mk hR
   clear hR r3 H3
   go_wp2_with fail
   go_ret
   refine ⟨fun _ => ?_, fun h2 => absurd h1 h2⟩
   rw [← HV.out]
   exact ⟨rfl, H4.out⟩
  ·go_enter Tryd.func90, Tryd.ntmps90
   go_wp2_with fail
   refine (rthing_short 8 (by omega) bs q HH.out.at2 Hn.out HBs.out (by omega) Hp.out).mono ?_
   rintro r w1 ⟨rfl, hR⟩
   have H2 := Aside0.mk (HH.out.trans hR)
   clear HH hR
   go_wp2_with fail
   refine (ropen_any H2.out).mono ?_
   rintro r w2 ⟨rfl, rfl⟩
   rw [show ((11 : Int) == 0) = false from rfl]
   have r3 := H2.out.r3
   go_wp2_with fail
   refine (rtold_any _ _ H2.out).mono ?_
   rintro r w4 ⟨rfl, hR⟩
   have H4 := Aside0.mk hR
   clear hR r3 H2
   go_wp2_with fail
   go_ret
   exact ⟨fun h2 => absurd h2 h1, fun _ => ⟨⟨_, rfl⟩, H4.out⟩⟩
 by_cases c70 : p = 70
 ·have eS : szP p = 2 := by unfold szP; rw [if_neg c105, if_pos c70]
  rw [eS]
  subst c70
  clear eS c105
  by_cases h1 : q + 2 ≤ nb
  ·go_enter Tryd.func90, Tryd.ntmps90
   go_wp2_with fail
   refine (rthing_ok 2 (by omega) bs q HH.out.at2 Hn.out HBs.out HBy.out h1).mono ?_
   rintro r w1 ⟨rfl, hR⟩
   have H2 := Aside0.mk (HH.out.trans hR)
   clear HH hR
   obtain ⟨v, hv⟩ : ∃ v, v = wrap64 (upN bs q 2 2) := ⟨_, rfl⟩
   rw [← hv]
   have HV := Aside0.mk hv
   clear hv
   go_wp2_with fail
   refine (ropen_any H2.out).mono ?_
   rintro r w2 ⟨rfl, rfl⟩
   rw [show ((0 : Int) == 0) = true from rfl]
   have r0 := H2.out.r0
   go_wp2_with fail
   refine (wnum_any _ _ _ H2.out.walk).mono ?_
   rintro r w3 ⟨rfl, hW⟩
   have H3 := Aside0.mk (H2.out.walked hW)
   clear hW r0 H2
   have r3 := H3.out.r3
   go_wp2_with fail
   refine (rtold_any _ _ H3.out).mono ?_
   rintro r w4 ⟨rfl, hR⟩
   have H4 := Aside0.mk hR
   clear hR r3 H3
   go_wp2_with fail
   go_ret
   refine ⟨fun _ => ?_, fun h2 => absurd h1 h2⟩
   rw [← HV.out]
   exact ⟨rfl, H4.out⟩
  ·go_enter Tryd.func90, Tryd.ntmps90
   go_wp2_with fail
   refine (rthing_short 2 (by omega) bs q HH.out.at2 Hn.out HBs.out (by omega) Hp.out).mono ?_
   rintro r w1 ⟨rfl, hR⟩
   have H2 := Aside0.mk (HH.out.trans hR)
   clear HH hR
   go_wp2_with fail
   refine (ropen_any H2.out).mono ?_
   rintro r w2 ⟨rfl, rfl⟩
   rw [show ((11 : Int) == 0) = false from rfl]
   have r3 := H2.out.r3
   go_wp2_with fail
   refine (rtold_any _ _ H2.out).mono ?_
   rintro r w4 ⟨rfl, hR⟩
   have H4 := Aside0.mk hR
   clear hR r3 H2
   go_wp2_with fail
   go_ret
   exact ⟨fun h2 => absurd h2 h1, fun _ => ⟨⟨_, rfl⟩, H4.out⟩⟩
 by_cases c74 : p = 74
 ·have eS : szP p = 2 := by unfold szP; rw [if_neg c105, if_neg c70, if_pos c74]
  rw [eS]
  subst c74
  clear eS c105 c70
  by_cases h1 : q + 2 ≤ nb
  ·go_enter Tryd.func90, Tryd.ntmps90
   go_wp2_with fail
   refine (rthing_ok 2 (by omega) bs q HH.out.at2 Hn.out HBs.out HBy.out h1).mono ?_
   rintro r w1 ⟨rfl, hR⟩
   have H2 := Aside0.mk (HH.out.trans hR)
   clear HH hR
   obtain ⟨v, hv⟩ : ∃ v, v = wrap64 (upN bs q 2 2) := ⟨_, rfl⟩
   rw [← hv]
   have HV := Aside0.mk hv
   clear hv
   go_wp2_with fail
   refine (ropen_any H2.out).mono ?_
   rintro r w2 ⟨rfl, rfl⟩
   rw [show ((0 : Int) == 0) = true from rfl]
   have r0 := H2.out.r0
   go_wp2_with fail
   refine (wnum_any _ _ _ H2.out.walk).mono ?_
   rintro r w3 ⟨rfl, hW⟩
   have H3 := Aside0.mk (H2.out.walked hW)
   clear hW r0 H2
   have r3 := H3.out.r3
   go_wp2_with fail
   refine (rtold_any _ _ H3.out).mono ?_
   rintro r w4 ⟨rfl, hR⟩
   have H4 := Aside0.mk hR
   clear hR r3 H3
   go_wp2_with fail
   go_ret
   refine ⟨fun _ => ?_, fun h2 => absurd h1 h2⟩
   rw [← HV.out]
   exact ⟨rfl, H4.out⟩
  ·go_enter Tryd.func90, Tryd.ntmps90
   go_wp2_with fail
   refine (rthing_short 2 (by omega) bs q HH.out.at2 Hn.out HBs.out (by omega) Hp.out).mono ?_
   rintro r w1 ⟨rfl, hR⟩
   have H2 := Aside0.mk (HH.out.trans hR)
   clear HH hR
   go_wp2_with fail
   refine (ropen_any H2.out).mono ?_
   rintro r w2 ⟨rfl, rfl⟩
   rw [show ((11 : Int) == 0) = false from rfl]
   have r3 := H2.out.r3
   go_wp2_with fail
   refine (rtold_any _ _ H2.out).mono ?_
   rintro r w4 ⟨rfl, hR⟩
   have H4 := Aside0.mk hR
   clear hR r3 H2
   go_wp2_with fail
   go_ret
   exact ⟨fun h2 => absurd h2 h1, fun _ => ⟨⟨_, rfl⟩, H4.out⟩⟩
 have eS : szP p = 1 := by unfold szP; rw [if_neg c105, if_neg c70, if_neg c74]
 rw [eS]
 have c105b : (p == 105) = false := beq_eq_false_iff_ne.2 c105
 have c70b : (p == 70) = false := beq_eq_false_iff_ne.2 c70
 have c74b : (p == 74) = false := beq_eq_false_iff_ne.2 c74
 clear eS c105 c70 c74
 by_cases h1 : q + 1 ≤ nb
 ·go_enter Tryd.func90, Tryd.ntmps90
  go_wp2_with fail
  refine (rthing_ok 1 (by omega) bs q HH.out.at2 Hn.out HBs.out HBy.out h1).mono ?_
  rintro r w1 ⟨rfl, hR⟩
  have H2 := Aside0.mk (HH.out.trans hR)
  clear HH hR
  obtain ⟨v, hv⟩ : ∃ v, v = wrap64 (upN bs q 1 1) := ⟨_, rfl⟩
  rw [← hv]
  have HV := Aside0.mk hv
  clear hv
  go_wp2_with fail
  refine (ropen_any H2.out).mono ?_
  rintro r w2 ⟨rfl, rfl⟩
  rw [show ((0 : Int) == 0) = true from rfl]
  have r0 := H2.out.r0
  go_wp2_with fail
  refine (wnum_any _ _ _ H2.out.walk).mono ?_
  rintro r w3 ⟨rfl, hW⟩
  have H3 := Aside0.mk (H2.out.walked hW)
  clear hW r0 H2
  have r3 := H3.out.r3
  go_wp2_with fail
  refine (rtold_any _ _ H3.out).mono ?_
  rintro r w4 ⟨rfl, hR⟩
  have H4 := Aside0.mk hR
  clear hR r3 H3
  go_wp2_with fail
  go_ret
  refine ⟨fun _ => ?_, fun h2 => absurd h1 h2⟩
  rw [← HV.out]
  exact ⟨rfl, H4.out⟩
 ·go_enter Tryd.func90, Tryd.ntmps90
  go_wp2_with fail
  refine (rthing_short 1 (by omega) bs q HH.out.at2 Hn.out HBs.out (by omega) Hp.out).mono ?_
  rintro r w1 ⟨rfl, hR⟩
  have H2 := Aside0.mk (HH.out.trans hR)
  clear HH hR
  go_wp2_with fail
  refine (ropen_any H2.out).mono ?_
  rintro r w2 ⟨rfl, rfl⟩
  rw [show ((11 : Int) == 0) = false from rfl]
  have r3 := H2.out.r3
  go_wp2_with fail
  refine (rtold_any _ _ H2.out).mono ?_
  rintro r w4 ⟨rfl, hR⟩
  have H4 := Aside0.mk hR
  clear hR r3 H2
  go_wp2_with fail
  go_ret
  exact ⟨fun h2 => absurd h2 h1, fun _ => ⟨⟨_, rfl⟩, H4.out⟩⟩
end
def TAB_89.T4 : Bool × List (List Nat × List Nat) := (true, [([], []), ([], []), ([], []), ([2], [2]), ([3], [3]), ([4], [4]), ([], []), ([], []), ([], []), ([5, 6, 7, 8], [5, 6, 7, 8]), ([1, 9], [1, 9]), ([0, 10, 9], [0, 10])])
def TAB_89.B4 : List Nat := [0, 0, 0, 4, 12, 28, 0, 0, 0, 508, 1022, 2047]
theorem TAB_89.tab4 : rtab .any (opsOf Tryd.f89 4) = TAB_89.T4 := by kernel_rfl
theorem TAB_89.bits4 : waitsOk TAB_89.T4.2 TAB_89.B4 = true := by kernel_rfl
def listT (bs : List Int) (q : Nat) (W V : Int) : Except (Int × Int) (List Int × Nat) :=
 if q + 1 ≤ bs.length then (if bs.getD q 0 = W then (match listR bs V (q + 1) (bs.getD q 0).toNat with | .ok l => .ok (l, q + 1 + (bs.getD q 0).toNat) | .error e => .error e) else .error (15, q)) else .error (11, bs.length)
theorem takeL_listT (bs : List Int) (nx : Nat) (W V : Int) (x : S50) (j : Nat) : takeL bs nx W V x j = match listT bs nx W V with | .ok s => .ok (setL x j s.1, s.2) | .error e => .error e := by
 unfold takeL listT
 by_cases h0 : nx + 1 ≤ bs.length
 ·rw [if_pos h0, if_pos h0]
  by_cases h1 : bs.getD nx 0 = W
  ·rw [if_pos h1, if_pos h1]
   cases listR bs V (nx + 1) (bs.getD nx 0).toNat <;> rfl
  ·rw [if_neg h1, if_neg h1]
 ·rw [if_neg h0, if_neg h0]
section
variable {Wz w0 w w' : World} {gr g : Nat} {G : Int} {A : Option Addr} {m c : Nat} {locs err : Int} {Ab : Option Addr} {nb cb : Nat} {at_ from_ off : Int}
theorem Rw.cell (h : Rw Wz w0 w gr g G A m c locs err Ab nb cb at_ from_ off) {a : Addr} {v : Value} (hc : w0.cell? a = some v) (h1 : a.block ≠ gr) (h2 : a.block ≠ g) : w.cell? a = some v := by
 have hlt := World.block_lt_of_cell? w0 a hc
 have he := h.kp a.block hlt h1 h2
 rw [← hc]
 unfold World.cell?
 rw [he]
theorem add_blk (ad : Addr) (i : Nat) : (ad.add i).block = ad.block := by unfold Addr.add; split <;> rfl
theorem WantW.rw (h : Rw Wz w w' gr g G A m c locs err Ab nb cb at_ from_ off) {p R f4 W : Int} (hw : WantW w A m p R f4 W) (hA : ∀ ad, A = some ad → ad.block ≠ gr ∧ ad.block ≠ g) : WantW w' A m p R f4 W := by
 rcases hw with ⟨h1, q, ad, h2, h3, h4, h5⟩ | ⟨h1, q, ad, h2, h3, h4, h5⟩ | h1
 ·exact .inl ⟨h1, q, ad, h2, h3, h4, h.cell h5 (by rw [add_blk]; exact (hA ad h4).1) (by rw [add_blk]; exact (hA ad h4).2)⟩
 ·exact .inr (.inl ⟨h1, q, ad, h2, h3, h4, h.cell h5 (by show (ad.add (q * 4)).block ≠ gr; rw [add_blk]; exact (hA ad h4).1) (by show (ad.add (q * 4)).block ≠ g; rw [add_blk]; exact (hA ad h4).2)⟩)
 ·exact .inr (.inr h1)
theorem Kd.R_rw {α : Type} {d : Kd α} {ty : TypeId} {w1 w2 : World} {v : Value} {l : List α} {locs' err' at' from' off' G' : Int} {m' c' base : Nat} {ok : Nat → Prop} {A' : Option Addr} (hr : d.R ty w1 base ok v l) (k : Rw Wz w1 w2 gr g G' A' m' c' locs' err' Ab nb cb at' from' off') (hok : ∀ k, ok k → k ≠ gr ∧ k ≠ g) : d.R ty w2 base ok v l :=
 Kd.R_step hr (fun k' ho hlt => k.kp k' hlt (hok k' ho).1 (hok k' ho).2)
theorem Rw.grown {w1 : World} {v : Value} {l : List Int} (h : Rw Wz w w' gr g G A m c locs err Ab nb cb at_ from_ off) (hr : kI.R 3 w' w.heap.size (fun k => w.heap.size ≤ k) v l) (hg : w'.grownBy w1 v.ownBlock) (hb : Below w.heap.size w' w1) (hgs : gr < w.heap.size ∧ g < w.heap.size) : Rw Wz w w1 gr g G A m c locs err Ab nb cb at_ from_ off :=
 ⟨blk_grown h.rb hg (Kd.R_ne hr h.rb (by decide)), blk_grown h.wb hg (Kd.R_ne hr h.wb (by decide)), h.bel.trans (hb.mono (by have := h.gw; omega)), Nat.le_trans h.sz hb.size, fun i hi h1 h2 => (hb.block i hi).trans (h.kp i hi h1 h2), h.gw, h.gz, h.ne⟩
def RdL (Wz w0 w : World) (gr g : Nat) (G : Int) (A : Option Addr) (m c : Nat) (locs : Int) (Ab : Option Addr) (nb cb : Nat) (off : Int) (r : Except (Int × Int) (List Int × Nat)) (e : Ending) (w' : World) : Prop :=
 match r with
 | .ok s => ∃ v f', e = .returned v ∧ kI.R 3 w' w.heap.size (fun k => w.heap.size ≤ k) v s.1 ∧ Rw Wz w0 w' gr g G A m c locs 0 Ab nb cb (s.2 : Int) f' off
 | .error er => ∃ v l a' f', er.1 ≠ 0 ∧ e = .returned v ∧ kI.R 3 w' w.heap.size (fun k => w.heap.size ≤ k) v l ∧ Rw Wz w0 w' gr g G A m c locs er.1 Ab nb cb a' f' er.2
theorem var_list {bs : List Int} {V : Int} {p q j N : Nat} {l : List Int} {r : Ending} (hp : p = q + 1 + j) (hn : nb = bs.length) (hj : j < N) (hl : listR bs V (q + 1) j = .ok l) (h : VarPost Wz w0 gr g G A m c locs Ab nb cb from_ off bs p V r w') :
  ∃ v e' a' f' o', r = .returned (.int .i64 v) ∧ Rw Wz w0 w' gr g G A m c locs e' Ab nb cb a' f' o' ∧ (e' = 0 → listR bs V (q + 1) (j + 1) = .ok (l ++ [v]) ∧ a' = ((q + 1 + (j + 1) : Nat) : Int) ∧ q + 1 + (j + 1) ≤ nb ∧ o' = off) ∧ (e' ≠ 0 → listR bs V (q + 1) N = .error (e', o')) := by
 have hs := listR_next hl
 rw [← hp] at hs
 subst hn
 by_cases h1 : p + 1 ≤ bs.length
 ·rw [if_pos h1] at hs
  by_cases h2 : bs.getD p 0 < V
  ·rw [if_pos h2] at hs
   obtain ⟨hr, hw⟩ := h.1 h1 h2
   exact ⟨_, _, _, _, _, hr, hw, fun _ => ⟨hs, by rw [hp]; rfl, by omega, rfl⟩, fun e => absurd rfl e⟩
  ·rw [if_neg h2] at hs
   obtain ⟨⟨v, hr⟩, hw⟩ := h.2.1 h1 h2
   exact ⟨_, _, _, _, _, hr, hw, fun e => absurd e (by decide), fun _ => listR_err hs N (by omega)⟩
 ·rw [if_neg h1] at hs
  obtain ⟨⟨v, hr⟩, hw⟩ := h.2.2 h1
  exact ⟨_, _, _, _, _, hr, hw, fun e => absurd e (by decide), fun _ => listR_err hs N (by omega)⟩
set_option maxHeartbeats 16000000 in
set_option maxRecDepth 100000 in
theorem rdlist_any (p P R V : Int) (A3 : Option Addr) (n3 c3 : Nat) (f0 f1 f2 f3 f4 : Int) (A5 : Option Addr) (n5 c5 : Nat) (A6 : Option Addr) (n6 c6 : Nat) (W : Int) (bs : List Int) (q : Nat) (h : Rw Wz w0 w gr g G A m c locs 0 Ab nb cb (q : Int) from_ off) (hn : nb = bs.length) (hB : kB.C Wz Ab nb bs) (hby : ∀ x ∈ bs, 0 ≤ x ∧ x ≤ 255) (hq : q ≤ nb)
  (hw : WantW w A m p R f4 W) (hA : ∀ ad, A = some ad → ad.block ≠ gr ∧ ad.block ≠ g) (hm : m ≤ 9223372036854775807) :
  Calls Tryd.prog 89 #[.pointer (some ⟨gr, 0, none⟩), .int .u8 p, .agg #[.int .i64 P, .int .i64 R, .int .i64 V, .slice A3 n3 c3], .agg #[.int .i64 f0, .int .i64 f1, .int .i64 f2, .int .i64 f3, .int .i64 f4, .slice A5 n5 c5, .slice A6 n6 c6]] w fun r w' => RdL Wz w0 w gr g G A m c locs Ab nb cb off (listT bs q W V) r w' := by
 have HO0 := Aside0.mk h
 have HH := Aside0.mk h.at2
 have HB := Aside0.mk (Below.refl w.heap.size w)
 have HGr : Aside0 (gr < w.heap.size ∧ g < w.heap.size) := ⟨blk_lt h.rb, blk_lt h.wb⟩
 have HBs := Aside0.mk hB
 have HBy := Aside0.mk hby
 have Hn := Aside0.mk hn
 have Hq := Aside0.mk hq
 have Hm := Aside0.mk hm
 have HWt := Aside0.mk hw
 have HAd := Aside0.mk hA
 have HNo := Aside0.mk (num_one bs q hby)
 have HBn := Aside0.mk (byte_at hby q)
 clear h hB hby hn hq hw hA hm
 by_cases h1 : q + 1 ≤ bs.length
 ·go_enter Tryd.func89, Tryd.ntmps89
  go_wp2_with (first | ((with_reducible refine gate_dst (N := 6) rfl ?_); refine box_event ?hg (N := 6) ?hd (cs := #[.int .i64 P, .int .i64 R, .int .i64 V, .slice A3 n3 c3]) (t := 46) ?hr ?_; (case hd => rfl); (case hg => rfl); (case hr => first | (go_simp; done) | (go_simp; rfl)); intro g6 hg w6 hbox hb; have G6 : Aside0 (w.heap.size ≤ g6) := ⟨by have := HB.out.size; omega⟩; replace HB := Aside0.mk (HB.out.trans (hb.mono HB.out.size)); replace HH := Aside0.mk (HH.out.below hb); replace HWt := Aside0.mk (WantW.below HWt.out hb); have BK6 := Aside0.mk hbox; clear hg hbox hb; have NE6 : Aside0 (g6 ≠ gr ∧ g6 ≠ g) := ⟨by have := G6.out; have := HGr.out; omega⟩) | ((with_reducible refine gate_dst (N := 7) rfl ?_); refine box_event ?hg (N := 7) ?hd (cs := #[.int .i64 f0, .int .i64 f1, .int .i64 f2, .int .i64 f3, .int .i64 f4, .slice A5 n5 c5, .slice A6 n6 c6]) (t := 50) ?hr ?_; (case hd => rfl); (case hg => rfl); (case hr => first | (go_simp; done) | (go_simp; rfl)); intro g7 hg w7 hbox hb; have G7 : Aside0 (w.heap.size ≤ g7) := ⟨by have := HB.out.size; omega⟩; replace HB := Aside0.mk (HB.out.trans (hb.mono HB.out.size)); replace HH := Aside0.mk (HH.out.below hb); replace HWt := Aside0.mk (WantW.below HWt.out hb); replace BK6 := Aside0.mk (blk_below BK6.out hb); have BK7 := Aside0.mk hbox; clear hg hbox hb; have NE7 : Aside0 (g7 ≠ gr ∧ g7 ≠ g) := ⟨by have := G7.out; have := HGr.out; omega⟩))
  refine (rthing_ok 1 (by omega) bs q HH.out.at2 Hn.out HBs.out HBy.out (by rw [Hn.out]; exact h1)).mono ?_
  rintro r w1 ⟨rfl, hR⟩
  rw [HNo.out]
  replace HWt := Aside0.mk (WantW.rw hR HWt.out HAd.out)
  replace BK6 := Aside0.mk (HH.out.at2.gb BK6.out hR NE6.out.1 NE6.out.2)
  replace BK7 := Aside0.mk (HH.out.at2.gb BK7.out hR NE7.out.1 NE7.out.2)
  replace HH := Aside0.mk (HH.out.trans hR)
  clear hR
  have H1 := Aside0.mk h1
  clear h1
  obtain ⟨v, hv⟩ : ∃ v, v = bs.getD q 0 := ⟨_, rfl⟩
  have HV := Aside0.mk hv
  have hbn := HBn.out
  rw [← hv] at hbn ⊢
  clear hv
  obtain ⟨N, rfl⟩ : ∃ N : Nat, v = (N : Int) := ⟨v.toNat, by omega⟩
  go_wp2_with fail
  refine (ropen_any HH.out).mono ?_
  rintro r w2 ⟨rfl, rfl⟩
  rw [show ((0 : Int) == 0) = true from rfl]
  have r0 := HH.out.r0
  have y0 : World.cell? w1 ⟨g6, 0, none⟩ = some (.int .i64 P) := (blk_cell BK6.out 0).trans rfl
  have y1 : World.cell? w1 ⟨g6, 1, none⟩ = some (.int .i64 R) := (blk_cell BK6.out 1).trans rfl
  have y2 : World.cell? w1 ⟨g6, 2, none⟩ = some (.int .i64 V) := (blk_cell BK6.out 2).trans rfl
  have y3 : World.cell? w1 ⟨g6, 3, none⟩ = some (.slice A3 n3 c3) := (blk_cell BK6.out 3).trans rfl
  have z0 : World.cell? w1 ⟨g7, 0, none⟩ = some (.int .i64 f0) := (blk_cell BK7.out 0).trans rfl
  have z1 : World.cell? w1 ⟨g7, 1, none⟩ = some (.int .i64 f1) := (blk_cell BK7.out 1).trans rfl
  have z2 : World.cell? w1 ⟨g7, 2, none⟩ = some (.int .i64 f2) := (blk_cell BK7.out 2).trans rfl
  have z3 : World.cell? w1 ⟨g7, 3, none⟩ = some (.int .i64 f3) := (blk_cell BK7.out 3).trans rfl
  have z4 : World.cell? w1 ⟨g7, 4, none⟩ = some (.int .i64 f4) := (blk_cell BK7.out 4).trans rfl
  have z5 : World.cell? w1 ⟨g7, 5, none⟩ = some (.slice A5 n5 c5) := (blk_cell BK7.out 5).trans rfl
  have z6 : World.cell? w1 ⟨g7, 6, none⟩ = some (.slice A6 n6 c6) := (blk_cell BK7.out 6).trans rfl
  go_wp2_with fail
  refine start_ (n := 12) (S := fun w' => w'.cell? ⟨gr, 0, none⟩ = some (.pointer (some ⟨g, 0, none⟩)) ∧ w'.cell? ⟨g6, 0, none⟩ = some (.int .i64 P) ∧ w'.cell? ⟨g6, 1, none⟩ = some (.int .i64 R) ∧ w'.cell? ⟨g6, 2, none⟩ = some (.int .i64 V) ∧ w'.cell? ⟨g6, 3, none⟩ = some (.slice A3 n3 c3) ∧ w'.cell? ⟨g7, 0, none⟩ = some (.int .i64 f0) ∧ w'.cell? ⟨g7, 1, none⟩ = some (.int .i64 f1) ∧ w'.cell? ⟨g7, 2, none⟩ = some (.int .i64 f2) ∧ w'.cell? ⟨g7, 3, none⟩ = some (.int .i64 f3) ∧ w'.cell? ⟨g7, 4, none⟩ = some (.int .i64 f4) ∧ w'.cell? ⟨g7, 5, none⟩ = some (.slice A5 n5 c5) ∧ w'.cell? ⟨g7, 6, none⟩ = some (.slice A6 n6 c6)) (ds := []) #[false, false, false, false, false, false, false, false, false, false, false, false] (by kernel_rfl) rfl rfl ⟨r0, y0, y1, y2, y3, z0, z1, z2, z3, z4, z5, z6⟩ (fun hHeld => ?_)
  refine with_tabW TAB_89.tab4 TAB_89.bits4 (fun HT_ HW_ => ?_)
  refine pq 0 (some 18) HT_ rfl rfl (fun _ _ _ h => h) ?_
  refine pq 1 (some 19) HT_ rfl rfl (fun _ _ _ h => h) ?_
  refine pq 2 (some 20) HT_ rfl rfl (fun _ _ _ h => h) ?_
  refine pq 3 (some 21) HT_ rfl rfl (fun _ _ _ h => h) ?_
  refine pq 4 (some 22) HT_ rfl rfl (fun _ _ _ h => h) ?_
  refine pq 6 (some 24) HT_ rfl rfl (fun _ _ _ h => h) ?_
  refine pt 5 (some 23) (v := ?_) (a' := ?_) rfl rfl (take_ofW HT_.out HW_.out (by kernel_rfl)) (fun _ _ _ h => h) (Or.inl ⟨by rfl, ?_⟩) hHeld ?_ ?_
  rotate_left; (rintro w' ⟨s0, s1, s2, s3, s4, s5, s6, s7, s8, s9, s10, s11⟩; go_simp; with_reducible rfl); rotate_left; (simp only [Act.put, pn, i64_w, i32_w]; rfl)
  refine pt 7 (some 25) (v := ?_) (a' := ?_) rfl rfl (take_ofW HT_.out HW_.out (by kernel_rfl)) (fun _ _ _ h => h) (Or.inl ⟨by rfl, ?_⟩) hHeld ?_ ?_
  rotate_left; (rintro w' ⟨s0, s1, s2, s3, s4, s5, s6, s7, s8, s9, s10, s11⟩; go_simp; with_reducible rfl); rotate_left; (simp only [Act.put, pn, i64_w, i32_w]; rfl)
  refine pt 8 (some 26) (v := ?_) (a' := ?_) rfl rfl (take_ofW HT_.out HW_.out (by kernel_rfl)) (fun _ _ _ h => h) (Or.inl ⟨by rfl, ?_⟩) hHeld ?_ ?_
  rotate_left; (rintro w' ⟨s0, s1, s2, s3, s4, s5, s6, s7, s8, s9, s10, s11⟩; go_simp; with_reducible rfl); rotate_left; (simp only [Act.put, pn, i64_w, i32_w]; rfl)
  refine one_ (i := 9) (N := some 27) #[true, true, true, true, true, true, true, true, true, true, false, false] rfl rfl (one_of HT_.out (by kernel_rfl)) (by decide) (fun K hK => ?_)
  refine goes_ Tryd.func95 (by kernel_rfl) rfl #[.pointer (some ⟨g, 0, none⟩), .int .u8 p, .agg #[.int .i64 P, .int .i64 R, .int .i64 V, .slice A3 n3 c3], .agg #[.int .i64 f0, .int .i64 f1, .int .i64 f2, .int .i64 f3, .int .i64 f4, .slice A5 n5 c5, .slice A6 n6 c6]] (by rfl) rfl rfl (by simp only [List.map_toArray, List.map_cons, List.map_nil]; rfl) ?_
  with_reducible refine (rwant_any p P R V A3 n3 c3 f0 f1 f2 f3 f4 A5 n5 c5 A6 n6 c6 W HH.out.drew.walk (WantW.below HWt.out (below_drew (Below.refl _ _))) Hm.out).mono ?_
  rintro e_ wm ⟨rfl, hW⟩
  refine ⟨_, rfl, ?_⟩
  have hR := HH.out.at2.drew.walked hW
  clear hW
  replace HWt := Aside0.mk (WantW.rw hR HWt.out HAd.out)
  replace BK6 := Aside0.mk (HH.out.at2.gb BK6.out hR NE6.out.1 NE6.out.2)
  replace BK7 := Aside0.mk (HH.out.at2.gb BK7.out hR NE7.out.1 NE7.out.2)
  replace HH := Aside0.mk (HH.out.trans hR)
  clear hR
  refine hK.out _ _ ⟨HH.out.r0, (blk_cell BK6.out 0).trans rfl, (blk_cell BK6.out 1).trans rfl, (blk_cell BK6.out 2).trans rfl, (blk_cell BK6.out 3).trans rfl, (blk_cell BK7.out 0).trans rfl, (blk_cell BK7.out 1).trans rfl, (blk_cell BK7.out 2).trans rfl, (blk_cell BK7.out 3).trans rfl, (blk_cell BK7.out 4).trans rfl, (blk_cell BK7.out 5).trans rfl, (blk_cell BK7.out 6).trans rfl⟩ (fun hHeld => ?_)
  clear hK K
  refine norm_ (a' := ?_) ?_ ?_
  rotate_left
  ·show Act.put _ (some 27) _ = _
   simp only [Act.put, pn, i64_w, i32_w]
   rfl
  refine pq 10 (some 28) HT_ rfl rfl (fun _ _ _ h => h) ?_
  refine one_ (i := 11) (N := some 29) #[true, true, true, true, true, true, true, true, true, true, true, true] rfl rfl (one_of HT_.out (by kernel_rfl)) (by decide) (fun K hK => ?_)
  refine goes_ Tryd.func50 (by kernel_rfl) rfl #[.pointer (some ⟨gr, 0, none⟩), .bool ((N : Int) == W), .int .i64 15] (by rfl) rfl rfl (by simp only [List.map_toArray, List.map_cons, List.map_nil]; rfl) ?_
  with_reducible refine (rmust_any _ _ HH.out.at2).mono ?_
  rintro e_ w4 ⟨rfl, hR⟩
  refine ⟨_, rfl, ?_⟩
  replace HWt := Aside0.mk (WantW.rw hR HWt.out HAd.out)
  replace BK6 := Aside0.mk (HH.out.at2.gb BK6.out hR NE6.out.1 NE6.out.2)
  replace BK7 := Aside0.mk (HH.out.at2.gb BK7.out hR NE7.out.1 NE7.out.2)
  replace HH := Aside0.mk (HH.out.trans hR)
  clear hR
  refine hK.out _ _ ⟨HH.out.r0, (blk_cell BK6.out 0).trans rfl, (blk_cell BK6.out 1).trans rfl, (blk_cell BK6.out 2).trans rfl, (blk_cell BK6.out 3).trans rfl, (blk_cell BK7.out 0).trans rfl, (blk_cell BK7.out 1).trans rfl, (blk_cell BK7.out 2).trans rfl, (blk_cell BK7.out 3).trans rfl, (blk_cell BK7.out 4).trans rfl, (blk_cell BK7.out 5).trans rfl, (blk_cell BK7.out 6).trans rfl⟩ (fun hHeld => ?_)
  clear hK K
  refine norm_ (a' := ?_) ?_ ?_
  rotate_left
  ·show Act.put _ (some 29) _ = _
   simp only [Act.put, pn, i64_w, i32_w]
   rfl
  refine done_ (done_of HT_.out (by kernel_rfl)) ?_
  clear hHeld HT_ HW_ r0
  clear y0 y1 y2 y3
  clear z0 z1 z2 z3 z4 z5 z6
  by_cases h2 : (N : Int) = W
  ·have e1 : ((N : Int) == W) = true := beq_iff_eq.2 h2
   rw [e1] at HH
   clear e1
   have HN255 : Aside0 (N ≤ 255) := ⟨by omega⟩
   have H2w := Aside0.mk h2
   clear h2
   have HH0 : Aside0 (Rw Wz w w4 gr g G A m c locs 0 Ab nb cb ((q + 1 : Nat) : Int) q off) := ⟨HH.out⟩
   have HR0 : Aside0 (kI.R 3 w4 w.heap.size (fun k => w.heap.size ≤ k) (.slice none 0 0) []) := ⟨Kd.R_nil _ _ _ _ _⟩
   clear BK7 HH HWt
   go_wp2_with fail
   go_loopw [10, 11] (fun v10 v11 w' => ∃ (j : Nat) (l : List Int) (e a f o : Int), j ≤ N ∧ v11 = .int .i64 (j : Int) ∧ Aside0 (kI.R 3 w' w.heap.size (fun k => w.heap.size ≤ k) v10 l) ∧ Aside0 (l.length = j) ∧ Aside0 (Rw Wz w w' gr g G A m c locs e Ab nb cb a f o) ∧ Aside0 (e = 0 → listR bs V (q + 1) j = .ok l ∧ a = ((q + 1 + j : Nat) : Int) ∧ q + 1 + j ≤ nb ∧ o = off) ∧ Aside0 (e ≠ 0 → listR bs V (q + 1) N = .error (e, o)) ∧ Aside0 (w'.heap[g6]? = some (.cells #[.int .i64 P, .int .i64 R, .int .i64 V, .slice A3 n3 c3] 46 (0, 0)))) (fun _ i _ => N - (intOf i).toNat)
   case atStart => exact ⟨0, [], _, _, _, _, Nat.zero_le _, rfl, HR0, ⟨rfl⟩, HH0, ⟨fun _ => ⟨rfl, rfl, by have := H1.out; have := Hn.out; omega, rfl⟩⟩, ⟨fun h => absurd rfl h⟩, BK6⟩
   case round =>
    clear HH0 HR0 BK6
    obtain ⟨j, l, e, a, f, o, hj, rfl, HR, HLl, HH, HE0, HE1, BK6⟩ := hrel
    obtain ⟨wO, rfl⟩ : ∃ wO, wO = wr := ⟨_, rfl⟩
    have HO := Aside0.mk (ropen_any HH.out.at2)
    by_cases hlt : j < N
    ·have hNb : decide ((j : Int) < (N : Int)) = true := decide_eq_true (by omega)
     have hwp : wrap64 ((j : Int) + 1) = (j : Int) + 1 := wrap_in (by omega) (by have := HN255.out; omega)
     by_cases he : e = 0
     ·rw [beq_iff_eq.2 he] at HO
      subst he
      obtain ⟨hl, rfl, hqn, rfl⟩ := HE0.out rfl
      have HL := Aside0.mk hl
      clear HE0 HE1 hl
      go_wp2_with fail
      refine HO.out.mono ?_
      rintro r w5 ⟨rfl, rfl⟩
      have y0 : World.cell? _ ⟨g6, 0, none⟩ = some (.int .i64 P) := (blk_cell BK6.out 0).trans rfl
      have y1 : World.cell? _ ⟨g6, 1, none⟩ = some (.int .i64 R) := (blk_cell BK6.out 1).trans rfl
      have y2 : World.cell? _ ⟨g6, 2, none⟩ = some (.int .i64 V) := (blk_cell BK6.out 2).trans rfl
      have y3 : World.cell? _ ⟨g6, 3, none⟩ = some (.slice A3 n3 c3) := (blk_cell BK6.out 3).trans rfl
      go_wp2_with fail
      refine (rdvar_any P R V A3 n3 c3 bs (q + 1 + j) HH.out.at2 Hn.out HBs.out HBy.out hqn).mono ?_
      rintro r w6 hV
      obtain ⟨x, e', a', f', o', rfl, hR, h0, h1⟩ := var_list (N := N) rfl Hn.out hlt HL.out hV
      clear y0 y1 y2 y3
      clear hV HO
      have H0 := Aside0.mk h0
      have H1e := Aside0.mk h1
      replace BK6 := Aside0.mk (HH.out.at2.gb BK6.out hR NE6.out.1 NE6.out.2)
      replace HR := Aside0.mk (Kd.R_rw HR.out hR (fun k hk => by have := HGr.out; omega))
      replace HH := Aside0.mk (HH.out.trans hR)
      clear hR h0 h1
      go_wp2_with ((with_reducible refine gate_builtin (b := .append) (xs := #[.tmp 42, .tmp 44]) rfl ?_); at_builtin; refine Kd.R_append kI (w0 := w6) w.heap.size rfl (.tmp 42) (.tmp 44) 48 3 (.int .i64 0) 8 rfl Tryd.underlying48 info3 rfl (by decide) (by omega) u10 l x [.int .i64 x] (fun k => w.heap.size ≤ k) (fun _ => False) rfl rfl ?aP (fun _ hk => hk.elim) ?aF ?aO ?aB ?aS ?aL ?_; (case aP => exact rfl); (case aF => exact fun k hk => Nat.le_trans HH.out.sz hk); (case aO => exact HR.out); (case aB => exact Below.refl _ _); (case aS => exact HH.out.sz); (case aL => have := HLl.out; have := HN255.out; omega); intro v1 wv ho hb hgr hat; have HHv := Aside0.mk (HH.out.grown HR.out hgr hb HGr.out); have B6v := Aside0.mk (blk_grown BK6.out hgr (Kd.R_ne HR.out BK6.out (by decide))); have FR := Aside0.mk ho; clear ho hb hgr hat)
      go_wp2_with fail
      go_roundw
      case rel => exact ⟨j + 1, l ++ [x], _, _, _, _, by omega, by go_num, FR, ⟨by rw [List.length_append, HLl.out]; rfl⟩, HHv, H0, H1e, B6v⟩
      case measure => simp [intOf]; omega
     ·rw [beq_eq_false_iff_ne.2 he] at HO
      go_wp2_with fail
      refine HO.out.mono ?_
      rintro r w5 ⟨rfl, rfl⟩
      go_wp2_with fail
      go_ret
      unfold listT
      rw [if_pos H1.out, ← HV.out, if_pos H2w.out, Int.toNat_natCast, HE1.out he]
      exact ⟨_, _, _, _, he, rfl, HR.out, HO0.out.trans HH.out⟩
    ·have hNb : decide ((j : Int) < (N : Int)) = false := decide_eq_false (by omega)
     obtain rfl : j = N := by omega
     go_wp2_with fail
     go_ret
     unfold listT
     rw [if_pos H1.out, ← HV.out, if_pos H2w.out, Int.toNat_natCast]
     by_cases he : e = 0
     ·subst he
      obtain ⟨hl, rfl, _, rfl⟩ := HE0.out rfl
      rw [hl]
      exact ⟨_, _, rfl, HR.out, HO0.out.trans HH.out⟩
     ·rw [HE1.out he]
      exact ⟨_, _, _, _, he, rfl, HR.out, HO0.out.trans HH.out⟩
  ·have e1 : ((N : Int) == W) = false := beq_eq_false_iff_ne.2 h2
   rw [e1] at HH
   clear e1
   have e2 : Aside0 (Rw Wz w0 w4 gr g G A m c locs 15 Ab nb cb ((q + 1 : Nat) : Int) q q) := ⟨HO0.out.trans HH.out⟩
   clear BK6 BK7 HH HWt
   go_wp2_with fail
   go_loopw [10, 11] (fun v10 v11 w' => v10 = .slice none 0 0 ∧ v11 = .int .i64 0 ∧ w' = w4) (fun _ i _ => N - (intOf i).toNat)
   case atStart => exact ⟨rfl, rfl, rfl⟩
   case round =>
    obtain ⟨rfl, rfl, rfl⟩ := hrel
    have HO := Aside0.mk (ropen_any e2.out)
    rw [show ((15 : Int) == 0) = false from rfl] at HO
    by_cases hN : (0 : Int) < (N : Int)
    ·have hNb : decide ((0 : Int) < (N : Int)) = true := decide_eq_true hN
     go_wp2_with fail
     refine HO.out.mono ?_
     rintro r w5 ⟨rfl, rfl⟩
     go_wp2_with fail
     go_ret
     unfold listT
     rw [if_pos H1.out, ← HV.out, if_neg h2]
     exact ⟨_, [], _, _, by show (15 : Int) ≠ 0; decide, rfl, Kd.R_nil _ _ _ _ _, e2.out⟩
    ·have hNb : decide ((0 : Int) < (N : Int)) = false := decide_eq_false hN
     go_wp2_with fail
     go_ret
     unfold listT
     rw [if_pos H1.out, ← HV.out, if_neg h2]
     exact ⟨_, [], _, _, by show (15 : Int) ≠ 0; decide, rfl, Kd.R_nil _ _ _ _ _, e2.out⟩
 ·go_enter Tryd.func89, Tryd.ntmps89
  go_wp2_with (first | ((with_reducible refine gate_dst (N := 6) rfl ?_); refine box_event ?hg (N := 6) ?hd (cs := #[.int .i64 P, .int .i64 R, .int .i64 V, .slice A3 n3 c3]) (t := 46) ?hr ?_; (case hd => rfl); (case hg => rfl); (case hr => first | (go_simp; done) | (go_simp; rfl)); intro g6 hg w6 hbox hb; have G6 : Aside0 (w.heap.size ≤ g6) := ⟨by have := HB.out.size; omega⟩; replace HB := Aside0.mk (HB.out.trans (hb.mono HB.out.size)); replace HH := Aside0.mk (HH.out.below hb); replace HWt := Aside0.mk (WantW.below HWt.out hb); have BK6 := Aside0.mk hbox; clear hg hbox hb; have NE6 : Aside0 (g6 ≠ gr ∧ g6 ≠ g) := ⟨by have := G6.out; have := HGr.out; omega⟩) | ((with_reducible refine gate_dst (N := 7) rfl ?_); refine box_event ?hg (N := 7) ?hd (cs := #[.int .i64 f0, .int .i64 f1, .int .i64 f2, .int .i64 f3, .int .i64 f4, .slice A5 n5 c5, .slice A6 n6 c6]) (t := 50) ?hr ?_; (case hd => rfl); (case hg => rfl); (case hr => first | (go_simp; done) | (go_simp; rfl)); intro g7 hg w7 hbox hb; have G7 : Aside0 (w.heap.size ≤ g7) := ⟨by have := HB.out.size; omega⟩; replace HB := Aside0.mk (HB.out.trans (hb.mono HB.out.size)); replace HH := Aside0.mk (HH.out.below hb); replace HWt := Aside0.mk (WantW.below HWt.out hb); replace BK6 := Aside0.mk (blk_below BK6.out hb); have BK7 := Aside0.mk hbox; clear hg hbox hb; have NE7 : Aside0 (g7 ≠ gr ∧ g7 ≠ g) := ⟨by have := G7.out; have := HGr.out; omega⟩))
  refine (rthing_short 1 (by omega) bs q HH.out.at2 Hn.out HBs.out (by rw [Hn.out]; omega) Hq.out).mono ?_
  rintro r w1 ⟨rfl, hR⟩
  have H2 := Aside0.mk (HO0.out.trans (HH.out.trans hR))
  clear HH BK6 BK7 hR
  go_wp2_with fail
  refine (ropen_any H2.out).mono ?_
  rintro r w2 ⟨rfl, rfl⟩
  rw [show ((11 : Int) == 0) = false from rfl]
  go_wp2_with fail
  go_ret
  unfold listT
  rw [if_neg h1]
  exact ⟨_, [], _, _, by show (11 : Int) ≠ 0; decide, rfl, Kd.R_nil _ _ _ _ _, by have h := H2.out; rw [Hn.out] at h; rw [Hn.out]; exact h⟩
end
def TAB_48.T4 : Bool × List (List Nat × List Nat) := (true, [([], []), ([0], [0]), ([1], [1]), ([2], [2]), ([], []), ([3, 4], [3, 4]), ([5], [5]), ([], []), ([], []), ([7, 8], [7, 8]), ([9], [9]), ([6, 10], [6, 10])])
def TAB_48.B4 : List Nat := [0, 1, 3, 7, 0, 31, 63, 0, 0, 384, 896, 2047]
theorem TAB_48.tab4 : rtab .any (opsOf Tryd.f48 4) = TAB_48.T4 := by kernel_rfl
theorem TAB_48.bits4 : waitsOk TAB_48.T4.2 TAB_48.B4 = true := by kernel_rfl
section
variable {Wz w0 w w' : World} {gr g : Nat} {G : Int} {A : Option Addr} {m c : Nat} {locs err : Int} {Ab : Option Addr} {nb cb : Nat} {at_ from_ off : Int}
def RdM (Wz w0 : World) (gr g : Nat) (G : Int) (A : Option Addr) (m c : Nat) (locs : Int) (Ab : Option Addr) (nb cb : Nat) (from_ off : Int) (bs : List Int) (e : Ending) (w' : World) : Prop :=
 e = .returned (.tuple #[]) ∧
 (bs.take 6 = magicL.take bs.length → 6 ≤ nb → Rw Wz w0 w' gr g G A m c locs 0 Ab nb cb ((6 : Nat) : Int) ((0 : Nat) : Int) off) ∧
 (bs.take 6 = magicL.take bs.length → ¬ 6 ≤ nb → Rw Wz w0 w' gr g G A m c locs 11 Ab nb cb ((0 : Nat) : Int) from_ nb) ∧
 (¬ bs.take 6 = magicL.take bs.length → Rw Wz w0 w' gr g G A m c locs 10 Ab nb cb ((0 : Nat) : Int) from_ off)
theorem take_getD (l : List Int) (i n : Nat) (h : i < n) : (l.take n).getD i 0 = l.getD i 0 := by
 rw [List.getD_eq_getElem?_getD, List.getD_eq_getElem?_getD, List.getElem?_take_of_lt h]
theorem magic_yes {bs : List Int} (h : ∀ i, i < 6 → i < bs.length → bs.getD i 0 = magicL.getD i 0) : bs.take 6 = magicL.take bs.length := by
 apply List.ext_getElem
 ·rw [List.length_take, List.length_take, show magicL.length = 6 from rfl, Nat.min_comm]
 ·intro i h1 h2
  rw [List.length_take] at h1
  have e := h i (by omega) (by omega)
  rw [List.getD_eq_getElem?_getD, List.getElem?_eq_getElem (by omega : i < bs.length), List.getD_eq_getElem?_getD, List.getElem?_eq_getElem (by show i < 6; omega)] at e
  rw [List.getElem_take, List.getElem_take]
  exact e
theorem magic_no {bs : List Int} {i : Nat} (h6 : i < 6) (hl : i < bs.length) (h : bs.getD i 0 ≠ magicL.getD i 0) : ¬ bs.take 6 = magicL.take bs.length := fun e => h (by
 have e2 := congrArg (fun l => l.getD i 0) e
 have e2 : (bs.take 6).getD i 0 = (magicL.take bs.length).getD i 0 := e2
 rw [take_getD _ _ _ h6, take_getD _ _ _ hl] at e2
 exact e2)
set_option maxHeartbeats 16000000 in
set_option maxRecDepth 100000 in
theorem rdmagic_any (bs : List Int) (h : Rw Wz w0 w gr g G A m c locs 0 Ab nb cb ((0 : Nat) : Int) from_ off) (hn : nb = bs.length) (hB : kB.C Wz Ab nb bs) (hby : ∀ x ∈ bs, 0 ≤ x ∧ x ≤ 255) :
  Calls Tryd.prog 48 #[.pointer (some ⟨gr, 0, none⟩)] w fun r w' => RdM Wz w0 gr g G A m c locs Ab nb cb from_ off bs r w' := by
 have HH := Aside0.mk h
 have HBs := Aside0.mk hB
 have HBy := Aside0.mk hby
 have Hn := Aside0.mk hn
 clear h hB hby hn
 go_enter Tryd.func48, Tryd.ntmps48
 go_wp2_with fail
 obtain ⟨w1, hw1⟩ : ∃ w1, w1 = w.alloc (Obj.cells #[.int .u8 102, .int .u8 117, .int .u8 103, .int .u8 117, .int .u8 101, .int .u8 1] 5) := ⟨_, rfl⟩
 have HB1 : Aside0 (Below w.heap.size w w1) := ⟨by rw [hw1]; exact below_alloc (Below.refl _ _) _⟩
 have HC1 : Aside0 (∀ i, i < 6 → w1.cell? ((⟨w.heap.size, 0, none⟩ : Addr).add i) = some (.int .u8 (magicL.getD i 0))) := ⟨by
  have hb : w1.heap[w.heap.size]? = some (.cells #[.int .u8 102, .int .u8 117, .int .u8 103, .int .u8 117, .int .u8 101, .int .u8 1] 5 (0, 0)) := by rw [hw1]; exact blk_new w _
  intro i hi
  have h6 : i = 0 ∨ i = 1 ∨ i = 2 ∨ i = 3 ∨ i = 4 ∨ i = 5 := by omega
  rcases h6 with rfl | rfl | rfl | rfl | rfl | rfl <;> exact (blk_cell hb _).trans rfl⟩
 rw [← hw1]
 have HGr : Aside0 (gr < w.heap.size ∧ g < w.heap.size) := ⟨blk_lt HH.out.rb, blk_lt HH.out.wb⟩
 obtain ⟨ad, had⟩ : ∃ ad : Addr, ad = ⟨w.heap.size, 0, none⟩ := ⟨_, rfl⟩
 rw [← had] at HC1 ⊢
 have HAb : Aside0 (ad.block = w.heap.size) := ⟨by rw [had]⟩
 clear hw1 had
 have HH1 := Aside0.mk (HH.out.below HB1.out)
 clear HH HB1
 have hm : nb ≤ 9223372036854775807 := by rw [Hn.out]; exact Kd.C_max (Hn.out ▸ HBs.out)
 have HC2 : Aside0 (∀ i, i < 6 → w1.cell? (ad.add i) = some (.int .u8 (magicL.getD i 0))) := HC1
 clear HC1
 go_loopw [3] (fun v3 w' => ∃ j : Nat, j ≤ 6 ∧ j ≤ nb ∧ v3 = .int .i64 (j : Int) ∧ Aside0 (∀ i, i < j → bs.getD i 0 = magicL.getD i 0) ∧ Aside0 (Rw Wz w0 w' gr g G A m c locs 0 Ab nb cb ((0 : Nat) : Int) from_ off) ∧ Aside0 (∀ i, i < 6 → w'.cell? (ad.add i) = some (.int .u8 (magicL.getD i 0)))) (fun i _ => 6 - (intOf i).toNat)
 case atStart => exact ⟨0, by omega, by omega, rfl, ⟨fun i hi => by omega⟩, HH1, HC2⟩
 case round =>
  clear HH1 HC2
  obtain ⟨j, hj6, hjn, rfl, HM, HH, HC⟩ := hrel
  obtain ⟨wO, rfl⟩ : ∃ wO, wO = wr := ⟨_, rfl⟩
  have r1 := HH.out.r1
  by_cases h6 : j < 6
  ·by_cases hl : j < nb
   ·have d1 : decide ((j : Int) < 6) = true := decide_eq_true (by omega)
    have d2 : decide ((j : Int) < (nb : Int)) = true := decide_eq_true (by omega)
    have p0 : (0 : Int) ≤ (j : Int) := by omega
    have p1 : (j : Int) < (nb : Int) := by omega
    have p2 : (j : Int) < 6 := by omega
    have hpl : j < bs.length := by rw [← Hn.out]; exact hl
    obtain ⟨ab, e0, hrx⟩ := Kd.at_int (Kd.C_below HBs.out HH.out.bel) (j : Int) p0 p1
    cases e0
    simp only [Int.toNat_natCast] at hrx
    have hc := HC.out j h6
    rw [rd_at bs j hpl] at hrx
    have hgx : Aside0 (bs.getD j 0 = bs[j]) := ⟨by rw [List.getD_eq_getElem?_getD, List.getElem?_eq_getElem hpl]; rfl⟩
    have Hpl := Aside0.mk hpl
    obtain ⟨x, hx⟩ : ∃ x, x = bs[j] := ⟨_, rfl⟩
    rw [← hx] at hrx hgx
    clear hx hpl
    obtain ⟨y, hy⟩ : ∃ y, y = magicL.getD j 0 := ⟨_, rfl⟩
    have HY := Aside0.mk hy
    rw [← hy] at hc
    clear hy
    have hwp : wrap64 ((j : Int) + 1) = (j : Int) + 1 := wrap_in (by omega) (by omega)
    go_wp2_with fail
    refine start_ (n := 12) (S := fun w' => w'.cell? ⟨gr, 1, none⟩ = some (.slice (some ab) nb cb) ∧ w'.cell? (ab.add j) = some (.int .u8 x) ∧ w'.cell? (ad.add j) = some (.int .u8 y)) (ds := []) #[false, false, false, false, false, false, false, false, false, false, false, false] (by kernel_rfl) rfl rfl ⟨r1, hrx, hc⟩ (fun hHeld => ?_)
    refine with_tabW TAB_48.tab4 TAB_48.bits4 (fun HT_ HW_ => ?_)
    refine pq 0 (some 20) HT_ rfl rfl (fun _ _ _ h => h) ?_
    refine pq 1 (some 21) HT_ rfl rfl (fun _ _ _ h => h) ?_
    refine pq 2 (some 22) HT_ rfl rfl (fun _ _ _ h => h) ?_
    refine pq 4 (some 24) HT_ rfl rfl (fun _ _ _ h => h) ?_
    refine pq 7 (some 27) HT_ rfl rfl (fun _ _ _ h => h) ?_
    refine pq 8 (some 28) HT_ rfl rfl (fun _ _ _ h => h) ?_
    refine pq 9 (some 29) HT_ rfl rfl (fun _ _ _ h => h) ?_
    refine pt 3 (some 23) (v := ?_) (a' := ?_) rfl rfl (take_ofW HT_.out HW_.out (by kernel_rfl)) (fun _ _ _ h => h) (Or.inl ⟨by rfl, ?_⟩) hHeld ?_ ?_
    rotate_left; (rintro w' ⟨s0, s1, s2⟩; go_simp; with_reducible rfl); rotate_left; (simp only [Act.put, pn, i64_w, i32_w]; rfl)
    refine pq 5 (some 25) HT_ rfl rfl (fun _ _ _ h => h) ?_
    refine pt 6 (some 26) (v := ?_) (a' := ?_) rfl rfl (take_ofW HT_.out HW_.out (by kernel_rfl)) (fun _ _ _ h => h) (Or.inl ⟨by rfl, ?_⟩) hHeld ?_ ?_
    rotate_left; (rintro w' ⟨s0, s1, s2⟩; go_simp; with_reducible rfl); rotate_left; (simp only [Act.put, pn, i64_w, i32_w]; rfl)
    refine pt 10 (some 30) (v := ?_) (a' := ?_) rfl rfl (take_ofW HT_.out HW_.out (by kernel_rfl)) (fun _ _ _ h => h) (Or.inl ⟨by rfl, ?_⟩) hHeld ?_ ?_
    rotate_left; (rintro w' ⟨s0, s1, s2⟩; go_simp; with_reducible rfl); rotate_left; (simp only [Act.put, pn, i64_w, i32_w]; rfl)
    refine pq 11 (some 31) HT_ rfl rfl (fun _ _ _ h => h) ?_
    refine done_ (done_of HT_.out (by kernel_rfl)) ?_
    clear hHeld HT_ HW_ r1 hrx hc
    by_cases hxy : x = y
    ·have e1 : (x != y) = false := by rw [bne_eq_false_iff_eq]; exact hxy
     have e2 : (x == y) = true := beq_iff_eq.2 hxy
     have HXY := Aside0.mk hxy
     clear hxy
     have HH2 := Aside0.mk HH.out.drew
     go_wp2_with fail
     go_roundw
     case rel => exact ⟨j + 1, by omega, by omega, by go_num, ⟨fun i hi => by
      rcases Nat.lt_or_ge i j with h | h
      ·exact HM.out i h
      ·obtain rfl : i = j := by omega
       rw [hgx.out, HXY.out, HY.out]⟩, HH2, ⟨HC.out⟩⟩
     case measure => simp [intOf]; omega
    ·have e1 : (x != y) = true := bne_iff_ne.2 hxy
     have e2 : (x == y) = false := beq_eq_false_iff_ne.2 hxy
     have HXY := Aside0.mk hxy
     clear hxy
     have r0 := HH.out.drew.r0
     have e3 := HH.out.drew.e3
     have f3 := blk_frozen HH.out.drew.wb 3
     have HH2 := Aside0.mk (HH.out.drew.walked (HH.out.drew.walk.set3 10))
     go_wp2_with fail
     go_end0
     have hno := magic_no h6 Hpl.out (by rw [hgx.out, ← HY.out]; exact HXY.out)
     exact ⟨rfl, fun h => absurd h hno, fun h => absurd h hno, fun _ => HH2.out⟩
   ·have HE : Aside0 (j = nb) := ⟨by omega⟩
    have d1 : decide ((j : Int) < 6) = true := decide_eq_true (by omega)
    have d2 : decide ((j : Int) < (nb : Int)) = false := decide_eq_false (by omega)
    go_wp2_with fail
    refine (rthing_short 6 (by omega) bs 0 HH.out Hn.out HBs.out (by omega) (by omega)).mono ?_
    rintro r w2 ⟨rfl, hR⟩
    have H2 := Aside0.mk hR
    clear hR r1
    go_wp2_with fail
    go_end0
    have hyes : bs.take 6 = magicL.take bs.length := magic_yes fun i _ hi => HM.out i (by rw [HE.out, Hn.out]; exact hi)
    exact ⟨rfl, fun _ h => by have := HE.out; omega, fun _ _ => H2.out, fun h => absurd hyes h⟩
  ·obtain rfl : j = 6 := by omega
   have d1 : decide (((6 : Nat) : Int) < 6) = false := by decide
   go_wp2_with fail
   refine (rthing_ok 6 (by omega) bs 0 HH.out Hn.out HBs.out HBy.out (by omega)).mono ?_
   rintro r w2 ⟨rfl, hR⟩
   have H2 := Aside0.mk hR
   clear hR r1
   go_wp2_with fail
   go_end0
   have hyes : bs.take 6 = magicL.take bs.length := magic_yes fun i hi _ => HM.out i hi
   exact ⟨rfl, fun _ _ => H2.out, fun _ h => absurd hjn h, fun h => absurd hyes h⟩
end
def TAB_52.T1 : Bool × List (List Nat × List Nat) := (true, [([], []), ([0], [0]), ([1, 1], [1]), ([2], [2]), ([3, 2], [2, 3]), ([4, 2], [2, 4]), ([5, 2], [2, 5]), ([6, 2], [2, 6]), ([2], [2]), ([8, 2], [2, 8]), ([9, 2], [2, 9]), ([10, 2], [2, 10]), ([7, 11, 2], [2, 7, 11]), ([12, 2], [2, 12]), ([2, 13], [2, 13])])
def TAB_52.B1 : List Nat := [0, 1, 3, 7, 15, 31, 63, 127, 7, 263, 775, 1799, 4095, 8191, 16383]
theorem TAB_52.tab1 : rtab .any (opsOf Tryd.f52 1) = TAB_52.T1 := by kernel_rfl
theorem TAB_52.bits1 : waitsOk TAB_52.T1.2 TAB_52.B1 = true := by kernel_rfl
def TAB_52.T13 : Bool × List (List Nat × List Nat) := (true, [([], []), ([0], [0]), ([1], [1]), ([2], [2]), ([], []), ([], []), ([3, 4, 5], [3, 4, 5])])
def TAB_52.B13 : List Nat := [0, 1, 3, 7, 0, 0, 63]
theorem TAB_52.tab13 : rtab .any (opsOf Tryd.f52 13) = TAB_52.T13 := by kernel_rfl
theorem TAB_52.bits13 : waitsOk TAB_52.T13.2 TAB_52.B13 = true := by kernel_rfl
section
variable {Wz w0 w w' : World} {gr g : Nat} {G : Int} {A : Option Addr} {m c : Nat} {locs err : Int} {Ab : Option Addr} {nb cb : Nat} {at_ from_ off : Int}
theorem Rw.other (h : Rw Wz w0 w gr g G A m c locs err Ab nb cb at_ from_ off) (b k : Nat) (v : Value) (h1 : b ≠ gr) (h2 : b ≠ g) (h3 : w0.heap.size ≤ b) (h4 : Wz.heap.size ≤ b) : Rw Wz w0 (w.setCell ⟨b, k, none⟩ v) gr g G A m c locs err Ab nb cb at_ from_ off := by
 have hk : ∀ i, i ≠ b → (w.setCell ⟨b, k, none⟩ v).heap[i]? = w.heap[i]? := fun i hi => Below.heap_setCell w ⟨b, k, none⟩ v i hi
 exact ⟨(hk gr (fun e => h1 e.symm)).trans h.rb, (hk g (fun e => h2 e.symm)).trans h.wb, below_set h.bel h4, Nat.le_trans h.sz (by simp [World.setCell]), fun i hi g1 g2 => (hk i (by omega)).trans (h.kp i hi g1 g2), h.gw, h.gz, h.ne⟩
theorem results_box_tmp {fn : Func} {p u : Tmp} (h : fn.results = #[.cell p 46, .tmp u]) (tmps : Array Value) (w : World) (b : Nat) (t : TypeId) (cs : Array Value) (fr : Nat × Nat)
  (hp : tmps.getD p undef = .pointer (some ⟨b, 0, none⟩)) (hg : w.heap[b]? = some (.cells cs t fr)) (hi : (Tryd.prog.info? 46).map (·.size) = some cs.size) :
  (results fn tmps).run Tryd.prog w = .ok (.tuple #[.agg cs, tmps.getD u undef]) w := by
 have hp' : tmps[p]?.getD undef = .pointer (some ⟨b, 0, none⟩) := by simpa using hp
 have hl := run_loadVar_row w b t 46 cs fr _ hg Tryd.underlying46 rfl hi
 simp only [results, h]
 simp [hp', asAddr, hl]
def RdH (Wz w0 : World) (gr g : Nat) (G : Int) (A : Option Addr) (m c : Nat) (locs : Int) (Ab : Option Addr) (nb cb : Nat) (at_ from_ off : Int) (bs : List Int) (q : Nat) (e : Ending) (w' : World) : Prop :=
 (q + 5 ≤ nb → e = .returned (.tuple #[.agg #[.int .i64 (hvOf bs q).P, .int .i64 (hvOf bs q).R, .int .i64 (hvOf bs q).V, .slice none 0 0], .int .i64 (hvN bs q)]) ∧
  ∃ f', Rw Wz w0 w' gr g G A m c (rheadL locs (hvOf bs q).P (hvOf bs q).R (hvOf bs q).V (hvN bs q) 0) (hvE bs q locs) Ab nb cb ((q + 5 : Nat) : Int) f' (toldO true (hvE bs q locs) q off)) ∧
 (¬ q + 5 ≤ nb → e = .returned (.tuple #[.agg #[.int .i64 0, .int .i64 0, .int .i64 0, .slice none 0 0], .int .i64 0]) ∧ Rw Wz w0 w' gr g G A m c locs 11 Ab nb cb at_ from_ nb)
set_option maxHeartbeats 16000000 in
set_option maxRecDepth 100000 in
theorem rdhead_short (bs : List Int) (q : Nat) (h : Rw Wz w0 w gr g G A m c locs 0 Ab nb cb (q : Int) from_ off) (hn : nb = bs.length) (hm : nb ≤ 9223372036854775807) (hq : q ≤ nb) (h5 : ¬ q + 5 ≤ nb) (h0 : w0.heap.size ≤ w.heap.size) (hz : Wz.heap.size ≤ w.heap.size) :
  Calls Tryd.prog 52 #[.pointer (some ⟨gr, 0, none⟩)] w fun r w' => RdH Wz w0 gr g G A m c locs Ab nb cb q from_ off bs q r w' := by
 have HH := Aside0.mk h
 have HGr : Aside0 (gr < w.heap.size ∧ g < w.heap.size) := ⟨blk_lt h.rb, blk_lt h.wb⟩
 have H5 := Aside0.mk h5
 have H0 := Aside0.mk h0
 have Hz := Aside0.mk hz
 have hws : wrap64 ((nb : Int) - (q : Int)) = (nb : Int) - (q : Int) := wrap_in (by omega) (by omega)
 have hc : decide ((nb : Int) - (q : Int) < 5) = true := decide_eq_true (by omega)
 clear h h5 h0 hz hn hm hq
 go_enter Tryd.func52, Tryd.ntmps52
 go_wp2_with fail
 obtain ⟨w1, hw1⟩ : ∃ w1, w1 = w.alloc (Obj.cells #[.int .i64 0, .int .i64 0, .int .i64 0, .slice none 0 0] 46) := ⟨_, rfl⟩
 have HB1 : Aside0 (Below w.heap.size w w1) := ⟨by rw [hw1]; exact below_alloc (Below.refl _ _) _⟩
 have K2 : Aside0 (w1.heap[w.heap.size]? = some (.cells #[.int .i64 0, .int .i64 0, .int .i64 0, .slice none 0 0] 46 (0, 0))) := ⟨by rw [hw1]; exact blk_new w _⟩
 rw [← hw1]
 obtain ⟨g2, hg2⟩ : ∃ g2, g2 = w.heap.size := ⟨_, rfl⟩
 have NE2 : Aside0 (g2 ≠ gr ∧ g2 ≠ g ∧ w0.heap.size ≤ g2 ∧ Wz.heap.size ≤ g2) := ⟨by have := HGr.out; have := H0.out; have := Hz.out; omega⟩
 rw [← hg2] at K2 ⊢
 have HH1 := Aside0.mk (HH.out.below HB1.out)
 clear hw1 hg2 HH HB1
 have r0 := HH1.out.r0
 have r1 := HH1.out.r1
 have r2 := HH1.out.r2
 refine start_ (n := 15) (S := fun w' => w'.cell? ⟨gr, 0, none⟩ = some (.pointer (some ⟨g, 0, none⟩)) ∧ w'.cell? ⟨gr, 1, none⟩ = some (.slice Ab nb cb) ∧ w'.cell? ⟨gr, 2, none⟩ = some (.int .i64 (q : Int))) (ds := []) #[false, false, false, false, false, false, false, false, false, false, false, false, false, false, false] (by kernel_rfl) rfl rfl ⟨r0, r1, r2⟩ (fun hHeld => ?_)
 refine with_tabW TAB_52.tab1 TAB_52.bits1 (fun HT_ HW_ => ?_)
 refine pq 0 (some 8) HT_ rfl rfl (fun _ _ _ h => h) ?_
 refine one_ (i := 1) (N := some 9) #[true, true, false, false, false, false, false, false, false, false, false, false, false, false, false] rfl rfl (one_of HT_.out (by kernel_rfl)) (by decide) (fun K hK => ?_)
 refine goes_ Tryd.func51 (by kernel_rfl) rfl #[.pointer (some ⟨gr, 0, none⟩)] (by rfl) rfl rfl (by simp only [List.map_toArray, List.map_cons, List.map_nil]; rfl) ?_
 with_reducible refine (ropen_any (HH1.out.drew.at2)).mono ?_
 rintro e_ wm ⟨rfl, rfl⟩
 refine ⟨_, rfl, ?_⟩
 refine hK.out _ _ ⟨r0, r1, r2⟩ (fun hHeld => ?_)
 clear hK K
 refine norm_ (a' := ?_) ?_ ?_
 rotate_left
 ·show Act.put _ (some 9) _ = _
  simp only [Act.put, pn, i64_w, i32_w]
  rfl
 refine pq 2 (some 10) HT_ rfl rfl (fun _ _ _ h => h) ?_
 refine pq 3 (some 11) HT_ rfl rfl (fun _ _ _ h => h) ?_
 refine pq 4 (some 12) HT_ rfl rfl (fun _ _ _ h => h) ?_
 refine pq 5 (some 13) HT_ rfl rfl (fun _ _ _ h => h) ?_
 refine pq 8 (some 16) HT_ rfl rfl (fun _ _ _ h => h) ?_
 refine pq 9 (some 17) HT_ rfl rfl (fun _ _ _ h => h) ?_
 refine pq 10 (some 18) HT_ rfl rfl (fun _ _ _ h => h) ?_
 refine pt 6 (some 14) (v := ?_) (a' := ?_) rfl rfl (take_ofW HT_.out HW_.out (by kernel_rfl)) (fun _ _ _ h => h) (Or.inl ⟨by rfl, ?_⟩) hHeld ?_ ?_
 rotate_left; (rintro w' ⟨s0, s1, s2⟩; go_simp; with_reducible rfl); rotate_left; (simp only [Act.put, pn, i64_w, i32_w]; rfl)
 refine pq 7 (some 15) HT_ rfl rfl (fun _ _ _ h => h) ?_
 refine pt 11 (some 19) (v := ?_) (a' := ?_) rfl rfl (take_ofW HT_.out HW_.out (by kernel_rfl)) (fun _ _ _ h => h) (Or.inl ⟨by rfl, ?_⟩) hHeld ?_ ?_
 rotate_left; (rintro w' ⟨s0, s1, s2⟩; go_simp; with_reducible rfl); rotate_left; (simp only [Act.put, pn, i64_w, i32_w]; rfl)
 refine pq 12 (some 20) HT_ rfl rfl (fun _ _ _ h => h) ?_
 refine pq 13 (some 21) HT_ rfl rfl (fun _ _ _ h => h) ?_
 refine pq 14 (some 22) HT_ rfl rfl (fun _ _ _ h => h) ?_
 refine done_ (done_of HT_.out (by kernel_rfl)) ?_
 clear hHeld HT_ HW_ r0 r1 r2 hws hc
 have HH2 := Aside0.mk HH1.out.drew
 have K3 : Aside0 (w1.drew.heap[g2]? = some (.cells #[.int .i64 0, .int .i64 0, .int .i64 0, .slice none 0 0] 46 (0, 0))) := ⟨K2.out⟩
 obtain ⟨w2, hw2⟩ : ∃ w2, w2 = w1.drew := ⟨_, rfl⟩
 rw [← hw2] at HH2 K3 ⊢
 clear HH1 K2 hw2
 have r0 := HH2.out.r0
 have e3 := HH2.out.e3
 have f3 := blk_frozen HH2.out.wb 3
 have HH3 := Aside0.mk (HH2.out.walked (HH2.out.walk.set3 11))
 have K4 : Aside0 ((w2.setCell ⟨g, 3, none⟩ (.int .i64 11)).heap[g2]? = some (.cells #[.int .i64 0, .int .i64 0, .int .i64 0, .slice none 0 0] 46 (0, 0))) := ⟨(Below.heap_setCell w2 ⟨g, 3, none⟩ _ g2 NE2.out.2.1).trans K3.out⟩
 clear HH2 K3
 go_wp2_with ((with_reducible refine gate_dst (N := 33) rfl ?_); refine Aside0.out ?_)
 obtain ⟨w3, hw3⟩ : ∃ w3, w3 = w2.setCell ⟨g, 3, none⟩ (.int .i64 11) := ⟨_, rfl⟩
 rw [← hw3] at HH3 K4 ⊢
 clear r0 e3 f3 hw3
 have r1 := HH3.out.r1
 have r4 := HH3.out.r4
 have f4 := blk_frozen HH3.out.rb 4
 have HH4 := Aside0.mk (HH3.out.set4 (nb : Int))
 have K5 : Aside0 ((w3.setCell ⟨gr, 4, none⟩ (.int .i64 nb)).heap[g2]? = some (.cells #[.int .i64 0, .int .i64 0, .int .i64 0, .slice none 0 0] 46 (0, 0))) := ⟨(Below.heap_setCell w3 ⟨gr, 4, none⟩ _ g2 NE2.out.1).trans K4.out⟩
 clear HH3 K4
 refine ⟨?_⟩
 have k0 : (w3.setCell ⟨gr, 4, none⟩ (.int .i64 nb)).cell? ⟨g2, 0, none⟩ = some (.int .i64 0) := (blk_cell K5.out 0).trans rfl
 have k1 : (w3.setCell ⟨gr, 4, none⟩ (.int .i64 nb)).cell? ⟨g2, 1, none⟩ = some (.int .i64 0) := (blk_cell K5.out 1).trans rfl
 have k2 : (w3.setCell ⟨gr, 4, none⟩ (.int .i64 nb)).cell? ⟨g2, 2, none⟩ = some (.int .i64 0) := (blk_cell K5.out 2).trans rfl
 have k3 : (w3.setCell ⟨gr, 4, none⟩ (.int .i64 nb)).cell? ⟨g2, 3, none⟩ = some (.slice none 0 0) := (blk_cell K5.out 3).trans rfl
 have q0 := blk_frozen K5.out 0
 have q1 := blk_frozen K5.out 1
 have q2 := blk_frozen K5.out 2
 have q3 := blk_frozen K5.out 3
 go_wp2_with fail
 clear k0 k1 k2 k3 q0 q1 q2 q3
 obtain ⟨w4, hw4⟩ : ∃ w4, w4 = w3.setCell ⟨gr, 4, none⟩ (.int .i64 nb) := ⟨_, rfl⟩
 rw [← hw4] at HH4 K5 ⊢
 clear hw4
 have hE : Aside0 (Rw Wz w0 ((((w4.setCell ⟨g2, 0, none⟩ (.int .i64 0)).setCell ⟨g2, 1, none⟩ (.int .i64 0)).setCell ⟨g2, 2, none⟩ (.int .i64 0)).setCell ⟨g2, 3, none⟩ (.slice none 0 0)) gr g G A m c locs 11 Ab nb cb q from_ nb) := ⟨(((HH4.out.other g2 0 _ NE2.out.1 NE2.out.2.1 NE2.out.2.2.1 NE2.out.2.2.2).other g2 1 _ NE2.out.1 NE2.out.2.1 NE2.out.2.2.1 NE2.out.2.2.2).other g2 2 _ NE2.out.1 NE2.out.2.1 NE2.out.2.2.1 NE2.out.2.2.2).other g2 3 _ NE2.out.1 NE2.out.2.1 NE2.out.2.2.1 NE2.out.2.2.2⟩
 have hK := blk_set (blk_set (blk_set (blk_set K5.out 0 (.int .i64 0)) 1 (.int .i64 0)) 2 (.int .i64 0)) 3 (.slice none 0 0)
 obtain ⟨w5, hw5⟩ : ∃ w5, w5 = (((w4.setCell ⟨g2, 0, none⟩ (.int .i64 0)).setCell ⟨g2, 1, none⟩ (.int .i64 0)).setCell ⟨g2, 2, none⟩ (.int .i64 0)).setCell ⟨g2, 3, none⟩ (.slice none 0 0) := ⟨_, rfl⟩
 rw [← hw5] at hE hK ⊢
 clear hw5
 try simp only [Exit.inBlock, Exit.then]
 refine bodyPost_ret (results_box_tmp rfl _ _ g2 46 #[.int .i64 0, .int .i64 0, .int .i64 0, .slice none 0 0] (0, 0) rfl (hK.trans rfl) (by kernel_rfl)) rfl ?_
 exact ⟨fun h => absurd h H5.out, fun _ => ⟨rfl, hE.out⟩⟩
set_option maxHeartbeats 16000000 in
set_option maxRecDepth 100000 in
theorem rdhead_long (bs : List Int) (q : Nat) (h : Rw Wz w0 w gr g G A m c locs 0 Ab nb cb (q : Int) from_ off) (hn : nb = bs.length) (hB : kB.C Wz Ab nb bs) (hby : ∀ x ∈ bs, 0 ≤ x ∧ x ≤ 255) (hm : nb ≤ 9223372036854775807) (h5 : q + 5 ≤ nb) (h0 : w0.heap.size ≤ w.heap.size) (hz : Wz.heap.size ≤ w.heap.size) (hl0 : 0 ≤ locs) (hl1 : locs ≤ 1099511627776) :
  Calls Tryd.prog 52 #[.pointer (some ⟨gr, 0, none⟩)] w fun r w' => RdH Wz w0 gr g G A m c locs Ab nb cb q from_ off bs q r w' := by
 have HH := Aside0.mk h
 have HB := Aside0.mk (Below.refl w.heap.size w)
 have HGr : Aside0 (gr < w.heap.size ∧ g < w.heap.size) := ⟨blk_lt h.rb, blk_lt h.wb⟩
 have H5 := Aside0.mk h5
 have H0 := Aside0.mk h0
 have Hz := Aside0.mk hz
 have HBs := Aside0.mk hB
 have HBy := Aside0.mk hby
 have Hn := Aside0.mk hn
 have HL := Aside0.mk (And.intro hl0 hl1)
 have hws : wrap64 ((nb : Int) - (q : Int)) = (nb : Int) - (q : Int) := wrap_in (by omega) (by omega)
 have hc : decide ((nb : Int) - (q : Int) < 5) = false := decide_eq_false (by omega)
 clear h h5 h0 hz hn hm hB hby hl0 hl1
 go_enter Tryd.func52, Tryd.ntmps52
 go_wp2_with ((with_reducible refine gate_dst (N := 2) rfl ?_); refine box_event ?hg (N := 2) ?hd (cs := #[.int .i64 0, .int .i64 0, .int .i64 0, .slice none 0 0]) (t := 46) ?hr ?_; (case hd => rfl); (case hg => rfl); (case hr => first | (go_simp; done) | (go_simp; rfl)); intro g2 hg w2 hbox hb; have G2 : Aside0 (w.heap.size ≤ g2) := ⟨by have := HB.out.size; omega⟩; replace HB := Aside0.mk (HB.out.trans (hb.mono HB.out.size)); replace HH := Aside0.mk (HH.out.below hb); have BK2 := Aside0.mk hbox; clear hg hbox hb; have NE2 : Aside0 (g2 ≠ gr ∧ g2 ≠ g ∧ w0.heap.size ≤ g2 ∧ Wz.heap.size ≤ g2) := ⟨by have := G2.out; have := HGr.out; have := H0.out; have := Hz.out; omega⟩)
 have r0 := HH.out.r0
 have r1 := HH.out.r1
 have r2 := HH.out.r2
 refine start_ (n := 15) (S := fun w' => w'.cell? ⟨gr, 0, none⟩ = some (.pointer (some ⟨g, 0, none⟩)) ∧ w'.cell? ⟨gr, 1, none⟩ = some (.slice Ab nb cb) ∧ w'.cell? ⟨gr, 2, none⟩ = some (.int .i64 (q : Int))) (ds := []) #[false, false, false, false, false, false, false, false, false, false, false, false, false, false, false] (by kernel_rfl) rfl rfl ⟨r0, r1, r2⟩ (fun hHeld => ?_)
 refine with_tabW TAB_52.tab1 TAB_52.bits1 (fun HT_ HW_ => ?_)
 refine pq 0 (some 8) HT_ rfl rfl (fun _ _ _ h => h) ?_
 refine one_ (i := 1) (N := some 9) #[true, true, false, false, false, false, false, false, false, false, false, false, false, false, false] rfl rfl (one_of HT_.out (by kernel_rfl)) (by decide) (fun K hK => ?_)
 refine goes_ Tryd.func51 (by kernel_rfl) rfl #[.pointer (some ⟨gr, 0, none⟩)] (by rfl) rfl rfl (by simp only [List.map_toArray, List.map_cons, List.map_nil]; rfl) ?_
 with_reducible refine (ropen_any (HH.out.drew.at2)).mono ?_
 rintro e_ wm ⟨rfl, rfl⟩
 refine ⟨_, rfl, ?_⟩
 refine hK.out _ _ ⟨r0, r1, r2⟩ (fun hHeld => ?_)
 clear hK K
 refine norm_ (a' := ?_) ?_ ?_
 rotate_left
 ·show Act.put _ (some 9) _ = _
  simp only [Act.put, pn, i64_w, i32_w]
  rfl
 refine pq 2 (some 10) HT_ rfl rfl (fun _ _ _ h => h) ?_
 refine pq 3 (some 11) HT_ rfl rfl (fun _ _ _ h => h) ?_
 refine pq 4 (some 12) HT_ rfl rfl (fun _ _ _ h => h) ?_
 refine pq 5 (some 13) HT_ rfl rfl (fun _ _ _ h => h) ?_
 refine pq 8 (some 16) HT_ rfl rfl (fun _ _ _ h => h) ?_
 refine pq 9 (some 17) HT_ rfl rfl (fun _ _ _ h => h) ?_
 refine pq 10 (some 18) HT_ rfl rfl (fun _ _ _ h => h) ?_
 refine pt 6 (some 14) (v := ?_) (a' := ?_) rfl rfl (take_ofW HT_.out HW_.out (by kernel_rfl)) (fun _ _ _ h => h) (Or.inl ⟨by rfl, ?_⟩) hHeld ?_ ?_
 rotate_left; (rintro w' ⟨s0, s1, s2⟩; go_simp; with_reducible rfl); rotate_left; (simp only [Act.put, pn, i64_w, i32_w]; rfl)
 refine pq 7 (some 15) HT_ rfl rfl (fun _ _ _ h => h) ?_
 refine pt 11 (some 19) (v := ?_) (a' := ?_) rfl rfl (take_ofW HT_.out HW_.out (by kernel_rfl)) (fun _ _ _ h => h) (Or.inl ⟨by rfl, ?_⟩) hHeld ?_ ?_
 rotate_left; (rintro w' ⟨s0, s1, s2⟩; go_simp; with_reducible rfl); rotate_left; (simp only [Act.put, pn, i64_w, i32_w]; rfl)
 refine pq 12 (some 20) HT_ rfl rfl (fun _ _ _ h => h) ?_
 refine pq 13 (some 21) HT_ rfl rfl (fun _ _ _ h => h) ?_
 refine pq 14 (some 22) HT_ rfl rfl (fun _ _ _ h => h) ?_
 refine done_ (done_of HT_.out (by kernel_rfl)) ?_
 clear hHeld HT_ HW_ r0 r1 r2 hws hc
 have H2 := Aside0.mk HH.out.drew
 have B2 : Aside0 (w2.drew.heap[g2]? = some (.cells #[.int .i64 0, .int .i64 0, .int .i64 0, .slice none 0 0] 46 (0, 0))) := ⟨BK2.out⟩
 have HB2 : Aside0 (Below w.heap.size w w2.drew) := ⟨below_drew HB.out⟩
 obtain ⟨w3, hw3⟩ : ∃ w3, w3 = w2.drew := ⟨_, rfl⟩
 rw [← hw3] at H2 B2 HB2 ⊢
 clear HH BK2 HB hw3
 have HH := H2
 have BK2 := B2
 have HB := HB2
 clear H2 B2 HB2
 have r2 := HH.out.r2
 have HW3 : Aside0 (w.heap.size ≤ w3.heap.size ∧ g2 < w3.heap.size) := ⟨HB.out.size, blk_lt BK2.out⟩
 clear HB
 have HB := Aside0.mk (Below.refl w3.heap.size w3)
 go_wp2_with ((with_reducible refine gate_dst (N := 5) rfl ?_); refine box_event ?hg (N := 5) ?hd (cs := #[.int .i64 0, .int .i64 0, .int .i64 0, .slice none 0 0]) (t := 46) ?hr ?_; (case hd => rfl); (case hg => rfl); (case hr => first | (go_simp; done) | (go_simp; rfl)); intro g5 hg w5 hbox hb; have G5 : Aside0 (w3.heap.size ≤ g5) := ⟨by have := HB.out.size; omega⟩; replace HB := Aside0.mk (HB.out.trans (hb.mono HB.out.size)); replace HH := Aside0.mk (HH.out.below hb); replace BK2 := Aside0.mk (blk_below BK2.out hb); have BK5 := Aside0.mk hbox; clear hg hbox hb; have NE5 : Aside0 (g5 ≠ gr ∧ g5 ≠ g ∧ w0.heap.size ≤ g5 ∧ Wz.heap.size ≤ g5) := ⟨by have := G5.out; have := HGr.out; have := H0.out; have := Hz.out; have := HW3.out; omega⟩; have NE25 : Aside0 (g2 ≠ g5) := ⟨by have := G5.out; have := HW3.out; omega⟩; have k0 : World.cell? w5 ⟨g5, 0, none⟩ = some (.int .i64 0) := (blk_cell BK5.out 0).trans rfl; have k1 : World.cell? w5 ⟨g5, 1, none⟩ = some (.int .i64 0) := (blk_cell BK5.out 1).trans rfl; have k2 : World.cell? w5 ⟨g5, 2, none⟩ = some (.int .i64 0) := (blk_cell BK5.out 2).trans rfl; have k3 : World.cell? w5 ⟨g5, 3, none⟩ = some (.slice none 0 0) := (blk_cell BK5.out 3).trans rfl; have q0 := blk_frozen BK5.out 0; have q1 := blk_frozen BK5.out 1; have q2 := blk_frozen BK5.out 2; have q3 := blk_frozen BK5.out 3)
 clear k0 k1 k2 k3 q0 q1 q2 q3
 have HH_ := Aside0.mk (((((HH.out).other g5 0 (.int .i64 0) NE5.out.1 NE5.out.2.1 NE5.out.2.2.1 NE5.out.2.2.2).other g5 1 (.int .i64 0) NE5.out.1 NE5.out.2.1 NE5.out.2.2.1 NE5.out.2.2.2).other g5 2 (.int .i64 0) NE5.out.1 NE5.out.2.1 NE5.out.2.2.1 NE5.out.2.2.2).other g5 3 (.slice none 0 0) NE5.out.1 NE5.out.2.1 NE5.out.2.2.1 NE5.out.2.2.2)
 have Bb : Aside0 ((World.heap (World.setCell (World.setCell (World.setCell (World.setCell w5 ⟨g5, 0, none⟩ (.int .i64 0)) ⟨g5, 1, none⟩ (.int .i64 0)) ⟨g5, 2, none⟩ (.int .i64 0)) ⟨g5, 3, none⟩ (.slice none 0 0)))[g5]? = some (.cells #[.int .i64 0, .int .i64 0, .int .i64 0, .slice none 0 0] 46 (0, 0))) := ⟨((blk_set ((blk_set ((blk_set ((blk_set (BK5.out) 0 (.int .i64 0))) 1 (.int .i64 0))) 2 (.int .i64 0))) 3 (.slice none 0 0))).trans rfl⟩
 have Bo := Aside0.mk (((Below.heap_setCell (World.setCell (World.setCell (World.setCell w5 ⟨g5, 0, none⟩ (.int .i64 0)) ⟨g5, 1, none⟩ (.int .i64 0)) ⟨g5, 2, none⟩ (.int .i64 0)) ⟨g5, 3, none⟩ (.slice none 0 0) g2 NE25.out).trans (((Below.heap_setCell (World.setCell (World.setCell w5 ⟨g5, 0, none⟩ (.int .i64 0)) ⟨g5, 1, none⟩ (.int .i64 0)) ⟨g5, 2, none⟩ (.int .i64 0) g2 NE25.out).trans (((Below.heap_setCell (World.setCell w5 ⟨g5, 0, none⟩ (.int .i64 0)) ⟨g5, 1, none⟩ (.int .i64 0) g2 NE25.out).trans (((Below.heap_setCell w5 ⟨g5, 0, none⟩ (.int .i64 0) g2 NE25.out).trans (BK2.out)))))))))
 obtain ⟨w6, hw6⟩ : ∃ w6, w6 = (World.setCell (World.setCell (World.setCell (World.setCell w5 ⟨g5, 0, none⟩ (.int .i64 0)) ⟨g5, 1, none⟩ (.int .i64 0)) ⟨g5, 2, none⟩ (.int .i64 0)) ⟨g5, 3, none⟩ (.slice none 0 0)) := ⟨_, rfl⟩
 rw [← hw6] at HH_ Bb Bo ⊢
 clear hw6 HH BK2 BK5
 have HH := HH_
 have BK5 := Bb
 have BK2 := Bo
 clear HH_ Bb Bo
 refine (rthing_ok 1 (by omega) bs (q) HH.out.at2 Hn.out HBs.out HBy.out (by have := H5.out; omega)).mono ?_
 rintro r u0 ⟨rfl, hR⟩
 rw [num_one bs (q) HBy.out]
 replace BK2 := Aside0.mk (HH.out.gb BK2.out hR NE2.out.1 NE2.out.2.1)
 replace BK5 := Aside0.mk (HH.out.gb BK5.out hR NE5.out.1 NE5.out.2.1)
 replace HH := Aside0.mk (HH.out.trans hR)
 clear hR
 obtain ⟨P, hP⟩ : ∃ P, P = bs.getD (q) 0 := ⟨_, rfl⟩
 have HP := Aside0.mk hP
 rw [← hP]
 clear hP
 have k0 : World.cell? u0 ⟨g5, 0, none⟩ = some (.int .i64 0) := (blk_cell BK5.out 0).trans rfl
 have q0 := blk_frozen BK5.out 0
 go_wp2_with fail
 clear k0 q0
 have HH_ := Aside0.mk ((HH.out).other g5 0 (.int .i64 P) NE5.out.1 NE5.out.2.1 NE5.out.2.2.1 NE5.out.2.2.2)
 have Bb : Aside0 ((World.heap (World.setCell u0 ⟨g5, 0, none⟩ (.int .i64 P)))[g5]? = some (.cells #[.int .i64 P, .int .i64 0, .int .i64 0, .slice none 0 0] 46 (0, 0))) := ⟨((blk_set (BK5.out) 0 (.int .i64 P))).trans rfl⟩
 have Bo := Aside0.mk (((Below.heap_setCell u0 ⟨g5, 0, none⟩ (.int .i64 P) g2 NE25.out).trans (BK2.out)))
 obtain ⟨v0, hv0⟩ : ∃ v0, v0 = (World.setCell u0 ⟨g5, 0, none⟩ (.int .i64 P)) := ⟨_, rfl⟩
 rw [← hv0] at HH_ Bb Bo ⊢
 clear hv0 HH BK2 BK5
 have HH := HH_
 have BK5 := Bb
 have BK2 := Bo
 clear HH_ Bb Bo
 refine (rthing_ok 1 (by omega) bs (q + 1) HH.out.at2 Hn.out HBs.out HBy.out (by have := H5.out; omega)).mono ?_
 rintro r u1 ⟨rfl, hR⟩
 rw [num_one bs (q + 1) HBy.out]
 replace BK2 := Aside0.mk (HH.out.gb BK2.out hR NE2.out.1 NE2.out.2.1)
 replace BK5 := Aside0.mk (HH.out.gb BK5.out hR NE5.out.1 NE5.out.2.1)
 replace HH := Aside0.mk (HH.out.trans hR)
 clear hR
 obtain ⟨R, hR⟩ : ∃ R, R = bs.getD (q + 1) 0 := ⟨_, rfl⟩
 have HR := Aside0.mk hR
 rw [← hR]
 clear hR
 have k0 : World.cell? u1 ⟨g5, 1, none⟩ = some (.int .i64 0) := (blk_cell BK5.out 1).trans rfl
 have q0 := blk_frozen BK5.out 1
 go_wp2_with fail
 clear k0 q0
 have HH_ := Aside0.mk ((HH.out).other g5 1 (.int .i64 R) NE5.out.1 NE5.out.2.1 NE5.out.2.2.1 NE5.out.2.2.2)
 have Bb : Aside0 ((World.heap (World.setCell u1 ⟨g5, 1, none⟩ (.int .i64 R)))[g5]? = some (.cells #[.int .i64 P, .int .i64 R, .int .i64 0, .slice none 0 0] 46 (0, 0))) := ⟨((blk_set (BK5.out) 1 (.int .i64 R))).trans rfl⟩
 have Bo := Aside0.mk (((Below.heap_setCell u1 ⟨g5, 1, none⟩ (.int .i64 R) g2 NE25.out).trans (BK2.out)))
 obtain ⟨v1, hv1⟩ : ∃ v1, v1 = (World.setCell u1 ⟨g5, 1, none⟩ (.int .i64 R)) := ⟨_, rfl⟩
 rw [← hv1] at HH_ Bb Bo ⊢
 clear hv1 HH BK2 BK5
 have HH := HH_
 have BK5 := Bb
 have BK2 := Bo
 clear HH_ Bb Bo
 refine (rthing_ok 1 (by omega) bs (q + 1 + 1) HH.out.at2 Hn.out HBs.out HBy.out (by have := H5.out; omega)).mono ?_
 rintro r u2 ⟨rfl, hR⟩
 rw [num_one bs (q + 1 + 1) HBy.out]
 replace BK2 := Aside0.mk (HH.out.gb BK2.out hR NE2.out.1 NE2.out.2.1)
 replace BK5 := Aside0.mk (HH.out.gb BK5.out hR NE5.out.1 NE5.out.2.1)
 replace HH := Aside0.mk (HH.out.trans hR)
 clear hR
 obtain ⟨V, hV⟩ : ∃ V, V = bs.getD (q + 1 + 1) 0 := ⟨_, rfl⟩
 have HV := Aside0.mk hV
 rw [← hV]
 clear hV
 have k0 : World.cell? u2 ⟨g5, 2, none⟩ = some (.int .i64 0) := (blk_cell BK5.out 2).trans rfl
 have q0 := blk_frozen BK5.out 2
 go_wp2_with fail
 clear k0 q0
 have HH_ := Aside0.mk ((HH.out).other g5 2 (.int .i64 V) NE5.out.1 NE5.out.2.1 NE5.out.2.2.1 NE5.out.2.2.2)
 have Bb : Aside0 ((World.heap (World.setCell u2 ⟨g5, 2, none⟩ (.int .i64 V)))[g5]? = some (.cells #[.int .i64 P, .int .i64 R, .int .i64 V, .slice none 0 0] 46 (0, 0))) := ⟨((blk_set (BK5.out) 2 (.int .i64 V))).trans rfl⟩
 have Bo := Aside0.mk (((Below.heap_setCell u2 ⟨g5, 2, none⟩ (.int .i64 V) g2 NE25.out).trans (BK2.out)))
 obtain ⟨v2, hv2⟩ : ∃ v2, v2 = (World.setCell u2 ⟨g5, 2, none⟩ (.int .i64 V)) := ⟨_, rfl⟩
 rw [← hv2] at HH_ Bb Bo ⊢
 clear hv2 HH BK2 BK5
 have HH := HH_
 have BK5 := Bb
 have BK2 := Bo
 clear HH_ Bb Bo
 refine (rthing_ok 2 (by omega) bs (q + 1 + 1 + 1) HH.out.at2 Hn.out HBs.out HBy.out (by have := H5.out; omega)).mono ?_
 rintro r u4 ⟨rfl, hR⟩
 rw [num_two bs (q + 1 + 1 + 1) HBy.out]
 replace BK2 := Aside0.mk (HH.out.gb BK2.out hR NE2.out.1 NE2.out.2.1)
 replace BK5 := Aside0.mk (HH.out.gb BK5.out hR NE5.out.1 NE5.out.2.1)
 replace HH := Aside0.mk (HH.out.trans hR)
 clear hR
 obtain ⟨N, hN⟩ : ∃ N, N = bs.getD (q + 1 + 1 + 1) 0 + bs.getD (q + 1 + 1 + 1 + 1) 0 * 256 := ⟨_, rfl⟩
 have HN := Aside0.mk hN
 rw [← hN]
 clear hN
 go_wp2_with fail
 refine (ropen_any HH.out.at2).mono ?_
 rintro r u5 ⟨rfl, rfl⟩
 rw [show ((0 : Int) == 0) = true from rfl]
 have r0 := HH.out.r0
 have k0 : World.cell? u4 ⟨g5, 0, none⟩ = some (.int .i64 P) := (blk_cell BK5.out 0).trans rfl
 have k1 : World.cell? u4 ⟨g5, 1, none⟩ = some (.int .i64 R) := (blk_cell BK5.out 1).trans rfl
 have k2 : World.cell? u4 ⟨g5, 2, none⟩ = some (.int .i64 V) := (blk_cell BK5.out 2).trans rfl
 have k3 : World.cell? u4 ⟨g5, 3, none⟩ = some (.slice none 0 0) := (blk_cell BK5.out 3).trans rfl
 go_wp2_with fail
 refine start_ (n := 7) (S := fun w' => w'.cell? ⟨gr, 0, none⟩ = some (.pointer (some ⟨g, 0, none⟩)) ∧ w'.cell? ⟨g5, 0, none⟩ = some (.int .i64 P) ∧ w'.cell? ⟨g5, 1, none⟩ = some (.int .i64 R) ∧ w'.cell? ⟨g5, 2, none⟩ = some (.int .i64 V) ∧ w'.cell? ⟨g5, 3, none⟩ = some (.slice none 0 0)) (ds := [6]) #[false, false, false, false, false, false, false] (by kernel_rfl) rfl rfl ⟨r0, k0, k1, k2, k3⟩ (fun hHeld => ?_)
 refine with_tabW TAB_52.tab13 TAB_52.bits13 (fun HT_ HW_ => ?_)
 refine pq 0 (some 57) HT_ rfl rfl (fun _ _ _ h => h) ?_
 refine pq 1 (some 58) HT_ rfl rfl (fun _ _ _ h => h) ?_
 refine pq 2 (some 59) HT_ rfl rfl (fun _ _ _ h => h) ?_
 refine pq 5 (some 62) HT_ rfl rfl (fun _ _ _ h => h) ?_
 refine pt 3 (some 60) (v := ?_) (a' := ?_) rfl rfl (take_ofW HT_.out HW_.out (by kernel_rfl)) (fun _ _ _ h => h) (Or.inl ⟨by rfl, ?_⟩) hHeld ?_ ?_
 rotate_left; (rintro w' ⟨s0, s1, s2, s3, s4⟩; go_simp; with_reducible rfl); rotate_left; (simp only [Act.put, pn, i64_w, i32_w]; rfl)
 refine pt 4 (some 61) (v := ?_) (a' := ?_) rfl rfl (take_ofW HT_.out HW_.out (by kernel_rfl)) (fun _ _ _ h => h) (Or.inl ⟨by rfl, ?_⟩) hHeld ?_ ?_
 rotate_left; (rintro w' ⟨s0, s1, s2, s3, s4⟩; go_simp; with_reducible rfl); rotate_left; (simp only [Act.put, pn, i64_w, i32_w]; rfl)
 refine last_ (i := 6) (N := some 63) #[true, true, true, true, true, true, true] rfl rfl (one_of HT_.out (by kernel_rfl)) (by decide) (fun K hK => ?_)
 refine goes_ Tryd.func35 (by kernel_rfl) rfl #[.pointer (some ⟨g, 0, none⟩), .agg #[.int .i64 P, .int .i64 R, .int .i64 V, .slice none 0 0], .int .i64 N] (by rfl) rfl rfl (by simp only [List.map_toArray, List.map_cons, List.map_nil]; rfl) ?_
 with_reducible refine (rhead_any P R V none 0 0 N HH.out.drew.walk HL.out.1 HL.out.2).mono ?_
 rintro e_ wm ⟨rfl, hW⟩
 refine ⟨_, rfl, ?_⟩
 have hR := HH.out.at2.drew.walked hW
 replace BK2 := Aside0.mk (HH.out.at2.gb BK2.out hR NE2.out.1 NE2.out.2.1)
 replace BK5 := Aside0.mk (HH.out.at2.gb BK5.out hR NE5.out.1 NE5.out.2.1)
 replace HH := Aside0.mk (HH.out.trans hR)
 clear hR hW
 refine hK.out _ _ ?_
 clear hK K
 refine norm_ (a' := ?_) ?_ ?_
 rotate_left
 ·show Act.put _ (some 63) _ = _
  simp only [Act.put, pn, i64_w, i32_w]
  rfl
 refine done_ (done_of HT_.out (by kernel_rfl)) ?_
 clear HT_ HW_ hHeld r0 k0 k1 k2 k3
 obtain ⟨wh, hwh⟩ : ∃ wh, wh = wm := ⟨_, rfl⟩
 go_wp2_with fail
 refine (rtold_any true (q : Int) HH.out.at2).mono ?_
 rintro r wt ⟨rfl, hR⟩
 replace BK2 := Aside0.mk (HH.out.gb BK2.out hR NE2.out.1 NE2.out.2.1)
 replace BK5 := Aside0.mk (HH.out.gb BK5.out hR NE5.out.1 NE5.out.2.1)
 replace HH := Aside0.mk (HH.out.trans hR)
 clear hR
 have y0 : World.cell? wt ⟨g5, 0, none⟩ = some (.int .i64 P) := (blk_cell BK5.out 0).trans rfl
 have y1 : World.cell? wt ⟨g5, 1, none⟩ = some (.int .i64 R) := (blk_cell BK5.out 1).trans rfl
 have y2 : World.cell? wt ⟨g5, 2, none⟩ = some (.int .i64 V) := (blk_cell BK5.out 2).trans rfl
 have y3 : World.cell? wt ⟨g5, 3, none⟩ = some (.slice none 0 0) := (blk_cell BK5.out 3).trans rfl
 have k0 : World.cell? wt ⟨g2, 0, none⟩ = some (.int .i64 0) := (blk_cell BK2.out 0).trans rfl
 have k1 : World.cell? wt ⟨g2, 1, none⟩ = some (.int .i64 0) := (blk_cell BK2.out 1).trans rfl
 have k2 : World.cell? wt ⟨g2, 2, none⟩ = some (.int .i64 0) := (blk_cell BK2.out 2).trans rfl
 have k3 : World.cell? wt ⟨g2, 3, none⟩ = some (.slice none 0 0) := (blk_cell BK2.out 3).trans rfl
 have q0 := blk_frozen BK2.out 0
 have q1 := blk_frozen BK2.out 1
 have q2 := blk_frozen BK2.out 2
 have q3 := blk_frozen BK2.out 3
 go_wp2_with fail
 have hE := ((((HH.out).other g2 0 (.int .i64 P) NE2.out.1 NE2.out.2.1 NE2.out.2.2.1 NE2.out.2.2.2).other g2 1 (.int .i64 R) NE2.out.1 NE2.out.2.1 NE2.out.2.2.1 NE2.out.2.2.2).other g2 2 (.int .i64 V) NE2.out.1 NE2.out.2.1 NE2.out.2.2.1 NE2.out.2.2.2).other g2 3 (.slice none 0 0) NE2.out.1 NE2.out.2.1 NE2.out.2.2.1 NE2.out.2.2.2
 have hK := (blk_set ((blk_set ((blk_set ((blk_set (BK2.out) 0 (.int .i64 P))) 1 (.int .i64 R))) 2 (.int .i64 V))) 3 (.slice none 0 0))
 try simp only [Exit.inBlock, Exit.then]
 refine bodyPost_ret (results_box_tmp rfl _ _ g2 46 #[.int .i64 P, .int .i64 R, .int .i64 V, .slice none 0 0] (0, 0) rfl (hK.trans rfl) (by kernel_rfl)) rfl ?_
 refine ⟨fun _ => ⟨by rw [HP.out, HR.out, HV.out, HN.out]; rfl, ((q + 1 + 1 + 1 : Nat) : Int), ?_⟩, fun h => absurd H5.out h⟩
 have e1 : rheadE locs P R V N 0 = hvE bs q locs := by rw [(head_ref locs P R V N).1, HP.out, HR.out, HV.out, HN.out]; rfl
 have e2 : rheadL locs P R V N 0 = rheadL locs (hvOf bs q).P (hvOf bs q).R (hvOf bs q).V (hvN bs q) 0 := by rw [HP.out, HR.out, HV.out, HN.out]; rfl
 rw [e1, e2] at hE
 exact hE
end
theorem parts_where (op j : Nat) : ((partsOf op)[j]? = some .args → op = 11 ∧ j = 1) ∧ ((partsOf op)[j]? = some .rets → op = 11 ∧ j = 2) ∧ ((partsOf op)[j]? = some .vals → op = 15 ∧ j = 0) := by
 unfold partsOf
 rcases op with _ | _ | _ | _ | _ | _ | _ | _ | _ | _ | _ | _ | _ | _ | _ | _ | _ | _ | op <;> (rcases j with _ | _ | _ | j <;> first | (simp; done) | (simp; omega))
theorem takeL_form {bs : List Int} {nx : Nat} {W V : Int} {x : S50} {j : Nat} {s : S50 × Nat} (h : takeL bs nx W V x j = .ok s) : ∃ l, s.1 = setL x j l := by
 rw [takeL_listT] at h
 split at h
 ·rename_i t _
  injection h with h
  exact ⟨t.1, by rw [← h]⟩
 ·cases h
theorem parts_empty {G : Int} {fs : List S46} {R V m : Int} {bs : List Int} {op : Nat} {x0 : S50} {nx0 j : Nat} {s : S50 × Nat} {pk : PK} (h : partsR G fs R V m bs op x0 nx0 j = .ok s) (hk : (partsOf op)[j]? = some pk) (h5 : x0.f5 = []) (h6 : x0.f6 = []) : ((pk = .args ∨ pk = .vals) → s.1.f5 = []) ∧ (pk = .rets → s.1.f6 = []) := by
 obtain ⟨p1, p2, p3⟩ := parts_where op j
 have one : op = 11 → ∀ s1, partsR G fs R V m bs op x0 nx0 1 = .ok s1 → s1.1.f5 = [] ∧ s1.1.f6 = [] := fun ho s1 h1 => by
  subst ho
  rw [partsR_step (pk := .func) (show partsR G fs R V m bs 11 x0 nx0 0 = .ok (x0, nx0) from rfl) rfl] at h1
  have e := (takeF_ok (show takeF bs nx0 _ (numX bs nx0 x0) _ = .ok s1 from h1) (setF_0 _ _ _) (setF_5 _ _ _) (setF_6 _ _ _)).2.2
  rw [e]
  exact ⟨(setF_5 _ _ _).trans h5, (setF_6 _ _ _).trans h6⟩
 refine ⟨fun hp => ?_, fun hp => ?_⟩
 ·rcases hp with rfl | rfl
  ·obtain ⟨ho, rfl⟩ := p1 hk
   exact (one ho s h).1
  ·obtain ⟨ho, rfl⟩ := p3 hk
   injection h with h
   rw [← h]
   exact h5
 ·subst hp
  obtain ⟨ho, rfl⟩ := p2 hk
  cases e : partsR G fs R V m bs op x0 nx0 1 with
  | error er =>
   rw [show partsR G fs R V m bs op x0 nx0 2 = .error er from runE_err e 2 (by omega)] at h
   cases h
  | ok s1 =>
   rw [partsR_step (pk := .args) e (by subst ho; rfl)] at h
   obtain ⟨l, hl⟩ := takeL_form (show takeL bs s1.2 _ V s1.1 5 = .ok s from h)
   rw [hl]
   exact (one ho s1 e).2
theorem size_num : ∀ op : Fin 18, ((partsOf op.val).all fun k => !numK k || (tabL.getD op.val 0).toNat == szP (chOf k)) = true := by decide
theorem num_size {op j : Nat} {pk : PK} (hop : op < 18) (hk : (partsOf op)[j]? = some pk) (hn : numK pk = true) : (tabL.getD op 0).toNat = szP (chOf pk) := by
 have h := List.all_eq_true.1 (size_num ⟨op, hop⟩) pk (List.mem_of_getElem? hk)
 rw [hn] at h
 simpa using h
theorem part_ne11 (G : Int) (fs : List S46) (R V m : Int) (x : S50) (pk : PK) (hn : numK pk = true) : partE G fs R V m x pk ≠ 11 := by
 cases pk <;> first | (cases hn; done) | (show (0 : Int) ≠ 11; decide) | (show numE _ _ _ _ ≠ 11; unfold numE; split <;> decide)
def PartOk (G : Int) (fs : List S46) (R V m : Int) (bs : List Int) (nb : Nat) (x : S50) (nx : Nat) (pk : PK) (off : Int) (x' : S50) (e' a' o' : Int) : Prop :=
 (e' = 0 → ∃ p : Nat, a' = (p : Int) ∧ p ≤ nb ∧ o' = off ∧ takeS G fs R V m bs x nx pk = .ok (x', p)) ∧ (e' ≠ 0 → takeS G fs R V m bs x nx pk = .error (e', o'))
section
variable {Wz w0 w w' : World} {gr g : Nat} {G : Int} {A : Option Addr} {m c : Nat} {locs err : Int} {Ab : Option Addr} {nb cb : Nat} {at_ from_ off : Int} {fs : List S46} {R V M : Int} {bs : List Int} {q : Nat} {x : S50} {r : Ending}
theorem var_part {i : Nat} {pk : PK} (hpk : pk = .R ∧ i = 1 ∨ pk = .S ∧ i = 2 ∨ pk = .T ∧ i = 3) (hn : nb = bs.length) (hby : ∀ x ∈ bs, 0 ≤ x ∧ x ≤ 255) (h : VarPost Wz w0 gr g G A m c locs Ab nb cb from_ off bs q V r w') :
  ∃ v e' a' f' o', r = .returned (.int .i64 v) ∧ Rw Wz w0 w' gr g G A m c locs e' Ab nb cb a' f' o' ∧ PartOk G fs R V M bs nb x q pk off (setF x i v) e' a' o' := by
 have key : takeS G fs R V M bs x q pk = takeF bs q 1 (setF x i (bs.getD q 0)) (varE V (bs.getD q 0)) := by
  rcases hpk with ⟨rfl, rfl⟩ | ⟨rfl, rfl⟩ | ⟨rfl, rfl⟩ <;> rfl
 obtain ⟨h1, h2, h3⟩ := h
 unfold takeF at key
 by_cases hl : q + 1 ≤ nb
 ·rw [if_pos (show q + 1 ≤ bs.length by omega)] at key
  by_cases hv : bs.getD q 0 < V
  ·obtain ⟨a1, a2⟩ := h1 hl hv
   rw [if_pos (show varE V (bs.getD q 0) = 0 from if_pos ⟨(byte_at hby q).1, hv⟩)] at key
   exact ⟨_, _, _, _, _, a1, a2, fun _ => ⟨q + 1, rfl, hl, rfl, key⟩, fun h => absurd rfl h⟩
  ·obtain ⟨⟨v, a1⟩, a2⟩ := h2 hl hv
   have h13 : varE V (bs.getD q 0) = 13 := if_neg (fun h => hv h.2)
   rw [h13, if_neg (by decide)] at key
   exact ⟨_, _, _, _, _, a1, a2, fun h => absurd h (by decide), fun _ => key⟩
 ·rw [if_neg (show ¬ q + 1 ≤ bs.length by omega)] at key
  obtain ⟨⟨v, a1⟩, a2⟩ := h3 hl
  exact ⟨_, _, _, _, _, a1, a2, fun h => absurd h (by decide), fun _ => by rw [hn]; exact key⟩
theorem num_part {op : Nat} {pk : PK} (hk : numK pk = true) (hop : x.f0.toNat = op) (hsz : (tabL.getD op 0).toNat = szP (chOf pk)) (hn : nb = bs.length) (h : RdNum Wz w0 gr g G A fs.length c locs Ab nb cb from_ off bs q (szP (chOf pk)) (fun v => mustE (numB_ G fs.length M (chOf pk) v) (numC_ (chOf pk)) 0) r w') :
  ∃ v e' a' f' o', r = .returned (.int .i64 v) ∧ Rw Wz w0 w' gr g G A fs.length c locs e' Ab nb cb a' f' o' ∧ PartOk G fs R V M bs nb x q pk off (setF x 4 v) e' a' o' := by
 have key : takeS G fs R V M bs x q pk = takeF bs q (szP (chOf pk)) (setF x 4 (wrap64 (upN bs q (szP (chOf pk)) (szP (chOf pk))))) (partE G fs R V M (setF x 4 (wrap64 (upN bs q (szP (chOf pk)) (szP (chOf pk))))) pk) := by
  have e : takeS G fs R V M bs x q pk = takeF bs q (tabL.getD x.f0.toNat 0).toNat (numX bs q x) (partE G fs R V M (numX bs q x) pk) := by cases pk <;> first | (cases hk; done) | rfl
  rw [e]
  unfold numX
  rw [hop, hsz]
 obtain ⟨h1, h2⟩ := h
 unfold takeF at key
 by_cases hl : q + szP (chOf pk) ≤ nb
 ·obtain ⟨a1, a2⟩ := h1 hl
  rw [if_pos (show q + szP (chOf pk) ≤ bs.length by omega)] at key
  have e := num_seq G fs R V M 0 (setF x 4 (wrap64 (upN bs q (szP (chOf pk)) (szP (chOf pk))))) pk hk
  rw [seqE_zero] at e
  have e : mustE (numB_ G fs.length M (chOf pk) (wrap64 (upN bs q (szP (chOf pk)) (szP (chOf pk))))) (numC_ (chOf pk)) 0 = _ := e
  rw [← e] at key
  have e11 : mustE (numB_ G fs.length M (chOf pk) (wrap64 (upN bs q (szP (chOf pk)) (szP (chOf pk))))) (numC_ (chOf pk)) 0 ≠ 11 := by rw [e]; exact part_ne11 G fs R V M _ pk hk
  refine ⟨_, _, _, _, _, a1, a2, fun he => ⟨_, rfl, hl, ?_, ?_⟩, fun he => ?_⟩
  ·unfold toldO
   rw [if_neg (fun h => h.2.1 he)]
  ·rw [if_pos he] at key
   exact key
  ·rw [if_neg he] at key
   rw [key]
   unfold toldO
   rw [if_pos ⟨rfl, he, e11⟩]
 ·obtain ⟨⟨v, a1⟩, a2⟩ := h2 hl
  rw [if_neg (show ¬ q + szP (chOf pk) ≤ bs.length by omega)] at key
  exact ⟨_, _, _, _, _, a1, a2, fun h => absurd h (by decide), fun _ => by rw [hn]; exact key⟩
theorem list_part {j : Nat} {pk : PK} (hpk : ((pk = .args ∨ pk = .vals) ∧ j = 5) ∨ (pk = .rets ∧ j = 6)) (hn : nb = bs.length) (hby : ∀ x ∈ bs, 0 ≤ x ∧ x ≤ 255) (h : RdL Wz w0 w gr g G A m c locs Ab nb cb off (listT bs q (wantE fs R x pk) V) r w') :
  ∃ v l e' a' f' o', r = .returned v ∧ kI.R 3 w' w.heap.size (fun k => w.heap.size ≤ k) v l ∧ Rw Wz w0 w' gr g G A m c locs e' Ab nb cb a' f' o' ∧ PartOk G fs R V M bs nb x q pk off (setL x j l) e' a' o' := by
 have key : takeS G fs R V M bs x q pk = takeL bs q (wantE fs R x pk) V x j := by
  rcases hpk with ⟨rfl | rfl, rfl⟩ | ⟨rfl, rfl⟩ <;> rfl
 have key2 := key
 rw [takeL_listT] at key
 unfold RdL at h
 cases e : listT bs q (wantE fs R x pk) V with
 | ok s =>
  rw [e] at h key
  obtain ⟨v, f', a1, a2, a3⟩ := h
  exact ⟨v, s.1, _, _, _, _, a1, a2, a3, fun _ => ⟨s.2, rfl, by rw [hn]; exact (takeL_ok hby (key2.symm.trans key)).1.le, rfl, key⟩, fun h => absurd rfl h⟩
 | error er =>
  rw [e] at h key
  obtain ⟨v, l, a', f', h0, a1, a2, a3⟩ := h
  exact ⟨v, l, _, _, _, _, a1, a2, a3, fun h => absurd h h0, fun _ => key⟩
def XR (wI w : World) (gx : Nat) (x : S50) : Prop := ∃ v5 v6, XBlk w gx x v5 v6 ∧ kI.R 3 w wI.heap.size (fun k => wI.heap.size ≤ k) v5 x.f5 ∧ kI.R 3 w wI.heap.size (fun k => wI.heap.size ≤ k) v6 x.f6
theorem XR.set {wI w : World} {gx : Nat} {x : S50} (h : XR wI w gx x) (i : Nat) (hi : i = 1 ∨ i = 2 ∨ i = 3 ∨ i = 4) (v : Int) : XR wI (w.setCell ⟨gx, i, none⟩ (.int .i64 v)) gx (setF x i v) := by
 obtain ⟨v5, v6, hb, h5, h6⟩ := h
 exact ⟨v5, v6, hb.set i hi v, by rw [setF_5]; exact Kd.R_set h5 hb (by decide) i _, by rw [setF_6]; exact Kd.R_set h6 hb (by decide) i _⟩
theorem XR.rw {wI : World} {gx : Nat} {x : S50} {G' : Int} {A' : Option Addr} {m' c' : Nat} {locs' err' at' from' off' : Int} (h : XR wI w gx x) (k : Rw Wz w w' gr g G' A' m' c' locs' err' Ab nb cb at' from' off') (hg : gr < wI.heap.size ∧ g < wI.heap.size) (hx : gx ≠ gr ∧ gx ≠ g) : XR wI w' gx x := by
 obtain ⟨v5, v6, hb, h5, h6⟩ := h
 exact ⟨v5, v6, (k.kp gx (blk_lt hb) hx.1 hx.2).trans hb, Kd.R_rw h5 k (fun k hk => by omega), Kd.R_rw h6 k (fun k hk => by omega)⟩
theorem XR.set5 {wI w : World} {gx : Nat} {x : S50} {v : Value} {l : List Int} (h : XR wI w gx x) (hv : kI.R 3 w wI.heap.size (fun k => wI.heap.size ≤ k) v l) (h0 : x.f5 = []) : XR wI (w.setCell ⟨gx, 5, none⟩ v) gx (setL x 5 l) := by
 obtain ⟨v5, v6, hb, h5, h6⟩ := h
 refine ⟨v, v6, (blk_set hb 5 v).trans rfl, ?_, Kd.R_set h6 hb (by decide) 5 _⟩
 show kI.R 3 _ _ _ v (x.f5 ++ l)
 rw [h0]
 exact Kd.R_set hv hb (by decide) 5 _
theorem XR.set6 {wI w : World} {gx : Nat} {x : S50} {v : Value} {l : List Int} (h : XR wI w gx x) (hv : kI.R 3 w wI.heap.size (fun k => wI.heap.size ≤ k) v l) (h0 : x.f6 = []) : XR wI (w.setCell ⟨gx, 6, none⟩ v) gx (setL x 6 l) := by
 obtain ⟨v5, v6, hb, h5, h6⟩ := h
 refine ⟨v5, v, (blk_set hb 6 v).trans rfl, Kd.R_set h5 hb (by decide) 6 _, ?_⟩
 show kI.R 3 _ _ _ v (x.f6 ++ l)
 rw [h0]
 exact Kd.R_set hv hb (by decide) 6 _
end
def TAB_53.T4 : Bool × List (List Nat × List Nat) := (true, [([], []), ([0], [0]), ([1], [1]), ([2], [2]), ([], []), ([], []), ([3, 4, 5], [3, 4, 5])])
def TAB_53.B4 : List Nat := [0, 1, 3, 7, 0, 0, 63]
theorem TAB_53.tab4 : rtab .any (opsOf Tryd.f53 4) = TAB_53.T4 := by kernel_rfl
theorem TAB_53.bits4 : waitsOk TAB_53.T4.2 TAB_53.B4 = true := by kernel_rfl
def TAB_53.T20 : Bool × List (List Nat × List Nat) := (true, [([], []), ([], []), ([], []), ([1, 2], [1, 2]), ([], []), ([], []), ([0, 3, 4, 5], [0, 3, 4, 5]), ([0, 1, 2, 3, 4, 5, 6], []), ([7, 6, 6, 0, 1, 2, 3, 4, 5, 6], [6, 7])])
def TAB_53.B20 : List Nat := [0, 0, 0, 6, 0, 0, 63, 127, 255]
theorem TAB_53.tab20 : rtab .any (opsOf Tryd.f53 20) = TAB_53.T20 := by kernel_rfl
theorem TAB_53.bits20 : waitsOk TAB_53.T20.2 TAB_53.B20 = true := by kernel_rfl
def TAB_53.T22 : Bool × List (List Nat × List Nat) := (true, [([], []), ([], []), ([], []), ([1, 2], [1, 2]), ([], []), ([], []), ([0, 3, 4, 5], [0, 3, 4, 5]), ([0, 1, 2, 3, 4, 5, 6], []), ([7, 6, 6, 0, 1, 2, 3, 4, 5, 6], [6, 7])])
def TAB_53.B22 : List Nat := [0, 0, 0, 6, 0, 0, 63, 127, 255]
theorem TAB_53.tab22 : rtab .any (opsOf Tryd.f53 22) = TAB_53.T22 := by kernel_rfl
theorem TAB_53.bits22 : waitsOk TAB_53.T22.2 TAB_53.B22 = true := by kernel_rfl
section
variable {Wz w0 w w' : World} {gr g : Nat} {G : Int} {A : Option Addr} {c : Nat} {m : Nat} {locs err : Int} {Ab : Option Addr} {nb cb : Nat} {at_ from_ off : Int} {fs : List S46}
theorem Rw.set7 (h : Rw Wz w0 w gr g G A m c locs err Ab nb cb at_ from_ off) (b : Nat) (b0 b1 b2 b3 b4 b5 b6 : Value) (h1 : b ≠ gr) (h2 : b ≠ g) (h3 : w0.heap.size ≤ b) (h4 : Wz.heap.size ≤ b) : Rw Wz w0 (set7 w b b0 b1 b2 b3 b4 b5 b6) gr g G A m c locs err Ab nb cb at_ from_ off :=
 (((((((h.other b 0 b0 h1 h2 h3 h4).other b 1 b1 h1 h2 h3 h4).other b 2 b2 h1 h2 h3 h4).other b 3 b3 h1 h2 h3 h4).other b 4 b4 h1 h2 h3 h4).other b 5 b5 h1 h2 h3 h4).other b 6 b6 h1 h2 h3 h4)
theorem Kd.R_set7 {base b : Nat} {ok : Nat → Prop} {v : Value} {l : List Int} {cs : Array Value} (h : kI.R 3 w base ok v l) (hb : w.heap[b]? = some (.cells cs 50 (0, 0))) (b0 b1 b2 b3 b4 b5 b6 : Value) : kI.R 3 (set7 w b b0 b1 b2 b3 b4 b5 b6) base ok v l := by
 have h0 := blk_set hb 0 b0
 have h1 := blk_set h0 1 b1
 have h2 := blk_set h1 2 b2
 have h3 := blk_set h2 3 b3
 have h4 := blk_set h3 4 b4
 have h5 := blk_set h4 5 b5
 exact Kd.R_set (Kd.R_set (Kd.R_set (Kd.R_set (Kd.R_set (Kd.R_set (Kd.R_set h hb (by decide) 0 b0) h0 (by decide) 1 b1) h1 (by decide) 2 b2) h2 (by decide) 3 b3) h3 (by decide) 4 b4) h4 (by decide) 5 b5) h5 (by decide) 6 b6
theorem HeadsC.rw (h : Rw Wz w w' gr g G A m c locs err Ab nb cb at_ from_ off) (hw : HeadsC w A fs) (hA : ∀ ad, A = some ad → ad.block ≠ gr ∧ ad.block ≠ g) : HeadsC w' A fs := fun i hi => by
 obtain ⟨ad, e, h0, h1⟩ := hw i hi
 exact ⟨ad, e, h.cell h0 (by rw [add_blk]; exact (hA ad e).1) (by rw [add_blk]; exact (hA ad e).2), h.cell h1 (by show (ad.add (i * 4)).block ≠ gr; rw [add_blk]; exact (hA ad e).1) (by show (ad.add (i * 4)).block ≠ g; rw [add_blk]; exact (hA ad e).2)⟩
def RdI (Wz w0 w : World) (gr g : Nat) (G : Int) (A : Option Addr) (m c : Nat) (Ab : Option Addr) (nb cb : Nat) (off : Int) (res : Except (Int × Int) (S50 × Nat × Int)) (r : Ending) (w' : World) : Prop :=
 ∃ (x : S50) (v5 v6 : Value) (e a f o L : Int), r = .returned (.agg #[.int .i64 x.f0, .int .i64 x.f1, .int .i64 x.f2, .int .i64 x.f3, .int .i64 x.f4, v5, v6]) ∧ kI.R 3 w' w.heap.size (fun k => w.heap.size ≤ k) v5 x.f5 ∧ kI.R 3 w' w.heap.size (fun k => w.heap.size ≤ k) v6 x.f6 ∧ Rw Wz w0 w' gr g G A m c L e Ab nb cb a f o ∧
  (e = 0 → ∃ p : Nat, a = (p : Int) ∧ p ≤ nb ∧ o = off ∧ res = .ok (x, p, L)) ∧ (e ≠ 0 → res = .error (e, o))
theorem opE_ne11 (locs : Int) (x : S50) (last : Bool) : opE locs x last ≠ 11 := by
 unfold opE
 repeat' split
 all_goals decide
set_option maxHeartbeats 32000000 in
set_option maxRecDepth 100000 in
theorem rdinstr_short (P R V : Int) (A3 : Option Addr) (n3 c3 : Nat) (M : Int) (last : Bool) (bs : List Int) (q : Nat) (h : Rw Wz w0 w gr g G A fs.length c locs 0 Ab nb cb (q : Int) from_ off) (hn : nb = bs.length) (hB : kB.C Wz Ab nb bs) (hby : ∀ x ∈ bs, 0 ≤ x ∧ x ≤ 255) (hq : q ≤ nb) (hz : Wz.heap.size ≤ w.heap.size) (h1 : ¬ q + 1 ≤ nb)
  (hl0 : 0 ≤ locs) (hl1 : locs < 1048576) (hF : HeadsC w A fs) (hA : ∀ ad, A = some ad → ad.block ≠ gr ∧ ad.block ≠ g) (hm : fs.length ≤ 9223372036854775807) :
  Calls Tryd.prog 53 #[.pointer (some ⟨gr, 0, none⟩), .agg #[.int .i64 P, .int .i64 R, .int .i64 V, .slice A3 n3 c3], .int .i64 M, .bool last] w fun r w' => RdI Wz w0 w gr g G A fs.length c Ab nb cb off (instrR G fs R V M bs last q locs) r w' := by
 have HO0 := Aside0.mk h
 have HH := Aside0.mk h.at2
 have HB := Aside0.mk (Below.refl w.heap.size w)
 have HGr : Aside0 (gr < w.heap.size ∧ g < w.heap.size) := ⟨blk_lt h.rb, blk_lt h.wb⟩
 have HBs := Aside0.mk hB
 have HBy := Aside0.mk hby
 have Hn := Aside0.mk hn
 have Hq := Aside0.mk hq
 have Hz := Aside0.mk hz
 have Hm := Aside0.mk hm
 have HL := Aside0.mk (And.intro hl0 hl1)
 have HF0 := Aside0.mk hF
 have HAd := Aside0.mk hA
 have HNo := Aside0.mk (num_one bs q hby)
 have HBn := Aside0.mk (byte_at hby q)
 clear h hB hby hn hq hz hl0 hl1 hF hA hm
 go_enter Tryd.func53, Tryd.ntmps53
 go_wp2_with (first | ((with_reducible refine gate_dst (N := 5) rfl ?_); refine box_event ?hg (N := 5) ?hd (cs := #[.int .i64 P, .int .i64 R, .int .i64 V, .slice A3 n3 c3]) (t := 46) ?hr ?_; (case hd => rfl); (case hg => rfl); (case hr => first | (go_simp; done) | (go_simp; rfl)); intro g5 hg w5 hbox hb; have G5 : Aside0 (w.heap.size ≤ g5) := ⟨by have := HB.out.size; omega⟩; replace HB := Aside0.mk (HB.out.trans (hb.mono HB.out.size)); replace HH := Aside0.mk (HH.out.below hb); have BK5 := Aside0.mk hbox; clear hg hbox hb; have NE5 : Aside0 (g5 ≠ gr ∧ g5 ≠ g ∧ w.heap.size ≤ g5 ∧ Wz.heap.size ≤ g5) := ⟨by have := G5.out; have := HGr.out; have := Hz.out; omega⟩) | ((with_reducible refine gate_dst (N := 8) rfl ?_); refine box_event ?hg (N := 8) ?hd (cs := #[.int .i64 0, .int .i64 0, .int .i64 0, .int .i64 0, .int .i64 0, .slice none 0 0, .slice none 0 0]) (t := 50) ?hr ?_; (case hd => rfl); (case hg => rfl); (case hr => first | (go_simp; done) | (go_simp; rfl)); intro g8 hg w8 hbox hb; have G8 : Aside0 (w.heap.size ≤ g8) := ⟨by have := HB.out.size; omega⟩; replace HB := Aside0.mk (HB.out.trans (hb.mono HB.out.size)); replace HH := Aside0.mk (HH.out.below hb); replace BK5 := Aside0.mk (blk_below BK5.out hb); have BK8 := Aside0.mk hbox; clear hg hbox hb; have NE8 : Aside0 (g8 ≠ gr ∧ g8 ≠ g ∧ w.heap.size ≤ g8 ∧ Wz.heap.size ≤ g8) := ⟨by have := G8.out; have := HGr.out; have := Hz.out; omega⟩; have NE58 : Aside0 (g5 ≠ g8) := ⟨by have h1 := BK5.out; have h2 := BK8.out; intro e; rw [e, h2] at h1; cases h1⟩))
 refine (rthing_short 1 (by omega) bs q HH.out.at2 Hn.out HBs.out (by omega) Hq.out).mono ?_
 rintro r w1 ⟨rfl, hR⟩
 replace BK5 := Aside0.mk (HH.out.at2.gb BK5.out hR NE5.out.1 NE5.out.2.1)
 replace BK8 := Aside0.mk (HH.out.at2.gb BK8.out hR NE8.out.1 NE8.out.2.1)
 replace HH := Aside0.mk (HH.out.trans hR)
 clear hR
 have H1 := Aside0.mk h1
 clear h1
 have HW1 : Aside0 (w.heap.size ≤ w1.heap.size ∧ g5 < w1.heap.size ∧ g8 < w1.heap.size) := ⟨HH.out.sz, blk_lt BK5.out, blk_lt BK8.out⟩
 clear HB
 have HB := Aside0.mk (Below.refl w1.heap.size w1)
 go_wp2_with ((with_reducible refine gate_dst (N := 9) rfl ?_); refine box_event ?hg (N := 9) ?hd (cs := #[.int .i64 0, .int .i64 0, .int .i64 0, .int .i64 0, .int .i64 0, .slice none 0 0, .slice none 0 0]) (t := 50) ?hr ?_; (case hd => rfl); (case hg => rfl); (case hr => first | (go_simp; done) | (go_simp; rfl)); intro g9 hg w9 hbox hb; have G9 : Aside0 (w1.heap.size ≤ g9) := ⟨by have := HB.out.size; omega⟩; replace HB := Aside0.mk (HB.out.trans (hb.mono HB.out.size)); replace HH := Aside0.mk (HH.out.below hb); replace BK5 := Aside0.mk (blk_below BK5.out hb); replace BK8 := Aside0.mk (blk_below BK8.out hb); have BK9 := Aside0.mk hbox; clear hg hbox hb; have NE9 : Aside0 (g9 ≠ gr ∧ g9 ≠ g ∧ w.heap.size ≤ g9 ∧ Wz.heap.size ≤ g9) := ⟨by have := G9.out; have := HGr.out; have := Hz.out; have := HW1.out; omega⟩; have NE9b : Aside0 (g5 ≠ g9 ∧ g8 ≠ g9) := ⟨by have := G9.out; have := HW1.out; omega⟩; have k0 : World.cell? w9 ⟨g9, 0, none⟩ = some (.int .i64 0) := (blk_cell BK9.out 0).trans rfl; have k1 : World.cell? w9 ⟨g9, 1, none⟩ = some (.int .i64 0) := (blk_cell BK9.out 1).trans rfl; have k2 : World.cell? w9 ⟨g9, 2, none⟩ = some (.int .i64 0) := (blk_cell BK9.out 2).trans rfl; have k3 : World.cell? w9 ⟨g9, 3, none⟩ = some (.int .i64 0) := (blk_cell BK9.out 3).trans rfl; have k4 : World.cell? w9 ⟨g9, 4, none⟩ = some (.int .i64 0) := (blk_cell BK9.out 4).trans rfl; have k5 : World.cell? w9 ⟨g9, 5, none⟩ = some (.slice none 0 0) := (blk_cell BK9.out 5).trans rfl; have k6 : World.cell? w9 ⟨g9, 6, none⟩ = some (.slice none 0 0) := (blk_cell BK9.out 6).trans rfl; have q0 := blk_frozen BK9.out 0; have q1 := blk_frozen BK9.out 1; have q2 := blk_frozen BK9.out 2; have q3 := blk_frozen BK9.out 3; have q4 := blk_frozen BK9.out 4; have q5 := blk_frozen BK9.out 5; have q6 := blk_frozen BK9.out 6)
 clear k0 k1 k2 k3 k4 k5 k6 q0 q1 q2 q3 q4 q5 q6
 have H2 := Aside0.mk ((((((((HH.out).other g9 0 (.int .i64 0) NE9.out.1 NE9.out.2.1 NE9.out.2.2.1 NE9.out.2.2.2).other g9 1 (.int .i64 0) NE9.out.1 NE9.out.2.1 NE9.out.2.2.1 NE9.out.2.2.2).other g9 2 (.int .i64 0) NE9.out.1 NE9.out.2.1 NE9.out.2.2.1 NE9.out.2.2.2).other g9 3 (.int .i64 0) NE9.out.1 NE9.out.2.1 NE9.out.2.2.1 NE9.out.2.2.2).other g9 4 (.int .i64 0) NE9.out.1 NE9.out.2.1 NE9.out.2.2.1 NE9.out.2.2.2).other g9 5 (.slice none 0 0) NE9.out.1 NE9.out.2.1 NE9.out.2.2.1 NE9.out.2.2.2).other g9 6 (.slice none 0 0) NE9.out.1 NE9.out.2.1 NE9.out.2.2.1 NE9.out.2.2.2)
 have B5 := Aside0.mk (((Below.heap_setCell (World.setCell (World.setCell (World.setCell (World.setCell (World.setCell (World.setCell w9 ⟨g9, 0, none⟩ (.int .i64 0)) ⟨g9, 1, none⟩ (.int .i64 0)) ⟨g9, 2, none⟩ (.int .i64 0)) ⟨g9, 3, none⟩ (.int .i64 0)) ⟨g9, 4, none⟩ (.int .i64 0)) ⟨g9, 5, none⟩ (.slice none 0 0)) ⟨g9, 6, none⟩ (.slice none 0 0) g5 NE9b.out.1).trans (((Below.heap_setCell (World.setCell (World.setCell (World.setCell (World.setCell (World.setCell w9 ⟨g9, 0, none⟩ (.int .i64 0)) ⟨g9, 1, none⟩ (.int .i64 0)) ⟨g9, 2, none⟩ (.int .i64 0)) ⟨g9, 3, none⟩ (.int .i64 0)) ⟨g9, 4, none⟩ (.int .i64 0)) ⟨g9, 5, none⟩ (.slice none 0 0) g5 NE9b.out.1).trans (((Below.heap_setCell (World.setCell (World.setCell (World.setCell (World.setCell w9 ⟨g9, 0, none⟩ (.int .i64 0)) ⟨g9, 1, none⟩ (.int .i64 0)) ⟨g9, 2, none⟩ (.int .i64 0)) ⟨g9, 3, none⟩ (.int .i64 0)) ⟨g9, 4, none⟩ (.int .i64 0) g5 NE9b.out.1).trans (((Below.heap_setCell (World.setCell (World.setCell (World.setCell w9 ⟨g9, 0, none⟩ (.int .i64 0)) ⟨g9, 1, none⟩ (.int .i64 0)) ⟨g9, 2, none⟩ (.int .i64 0)) ⟨g9, 3, none⟩ (.int .i64 0) g5 NE9b.out.1).trans (((Below.heap_setCell (World.setCell (World.setCell w9 ⟨g9, 0, none⟩ (.int .i64 0)) ⟨g9, 1, none⟩ (.int .i64 0)) ⟨g9, 2, none⟩ (.int .i64 0) g5 NE9b.out.1).trans (((Below.heap_setCell (World.setCell w9 ⟨g9, 0, none⟩ (.int .i64 0)) ⟨g9, 1, none⟩ (.int .i64 0) g5 NE9b.out.1).trans (((Below.heap_setCell w9 ⟨g9, 0, none⟩ (.int .i64 0) g5 NE9b.out.1).trans (BK5.out)))))))))))))))
 have B8 := Aside0.mk (((Below.heap_setCell (World.setCell (World.setCell (World.setCell (World.setCell (World.setCell (World.setCell w9 ⟨g9, 0, none⟩ (.int .i64 0)) ⟨g9, 1, none⟩ (.int .i64 0)) ⟨g9, 2, none⟩ (.int .i64 0)) ⟨g9, 3, none⟩ (.int .i64 0)) ⟨g9, 4, none⟩ (.int .i64 0)) ⟨g9, 5, none⟩ (.slice none 0 0)) ⟨g9, 6, none⟩ (.slice none 0 0) g8 NE9b.out.2).trans (((Below.heap_setCell (World.setCell (World.setCell (World.setCell (World.setCell (World.setCell w9 ⟨g9, 0, none⟩ (.int .i64 0)) ⟨g9, 1, none⟩ (.int .i64 0)) ⟨g9, 2, none⟩ (.int .i64 0)) ⟨g9, 3, none⟩ (.int .i64 0)) ⟨g9, 4, none⟩ (.int .i64 0)) ⟨g9, 5, none⟩ (.slice none 0 0) g8 NE9b.out.2).trans (((Below.heap_setCell (World.setCell (World.setCell (World.setCell (World.setCell w9 ⟨g9, 0, none⟩ (.int .i64 0)) ⟨g9, 1, none⟩ (.int .i64 0)) ⟨g9, 2, none⟩ (.int .i64 0)) ⟨g9, 3, none⟩ (.int .i64 0)) ⟨g9, 4, none⟩ (.int .i64 0) g8 NE9b.out.2).trans (((Below.heap_setCell (World.setCell (World.setCell (World.setCell w9 ⟨g9, 0, none⟩ (.int .i64 0)) ⟨g9, 1, none⟩ (.int .i64 0)) ⟨g9, 2, none⟩ (.int .i64 0)) ⟨g9, 3, none⟩ (.int .i64 0) g8 NE9b.out.2).trans (((Below.heap_setCell (World.setCell (World.setCell w9 ⟨g9, 0, none⟩ (.int .i64 0)) ⟨g9, 1, none⟩ (.int .i64 0)) ⟨g9, 2, none⟩ (.int .i64 0) g8 NE9b.out.2).trans (((Below.heap_setCell (World.setCell w9 ⟨g9, 0, none⟩ (.int .i64 0)) ⟨g9, 1, none⟩ (.int .i64 0) g8 NE9b.out.2).trans (((Below.heap_setCell w9 ⟨g9, 0, none⟩ (.int .i64 0) g8 NE9b.out.2).trans (BK8.out)))))))))))))))
 have B9 : Aside0 ((World.heap (World.setCell (World.setCell (World.setCell (World.setCell (World.setCell (World.setCell (World.setCell w9 ⟨g9, 0, none⟩ (.int .i64 0)) ⟨g9, 1, none⟩ (.int .i64 0)) ⟨g9, 2, none⟩ (.int .i64 0)) ⟨g9, 3, none⟩ (.int .i64 0)) ⟨g9, 4, none⟩ (.int .i64 0)) ⟨g9, 5, none⟩ (.slice none 0 0)) ⟨g9, 6, none⟩ (.slice none 0 0)))[g9]? = some (.cells #[.int .i64 0, .int .i64 0, .int .i64 0, .int .i64 0, .int .i64 0, .slice none 0 0, .slice none 0 0] 50 (0, 0))) := ⟨set7_at BK9.out (.int .i64 0) (.int .i64 0) (.int .i64 0) (.int .i64 0) (.int .i64 0) (.slice none 0 0) (.slice none 0 0)⟩
 obtain ⟨wa, hwa⟩ : ∃ wa, wa = (World.setCell (World.setCell (World.setCell (World.setCell (World.setCell (World.setCell (World.setCell w9 ⟨g9, 0, none⟩ (.int .i64 0)) ⟨g9, 1, none⟩ (.int .i64 0)) ⟨g9, 2, none⟩ (.int .i64 0)) ⟨g9, 3, none⟩ (.int .i64 0)) ⟨g9, 4, none⟩ (.int .i64 0)) ⟨g9, 5, none⟩ (.slice none 0 0)) ⟨g9, 6, none⟩ (.slice none 0 0)) := ⟨_, rfl⟩
 rw [← hwa] at H2 B5 B8 B9 ⊢
 clear hwa HH BK5 BK8 BK9 HB
 have HH := H2
 have BK5 := B5
 have BK8 := B8
 have BK9 := B9
 clear H2 B5 B8 B9
 refine (ropen_any HH.out.at2).mono ?_
 rintro r w2 ⟨rfl, rfl⟩
 rw [show ((11 : Int) == 0) = false from rfl]
 have r3 := HH.out.r3
 go_wp2_with fail
 refine (rtold_any false _ HH.out.at2).mono ?_
 rintro r wt ⟨rfl, hR⟩
 clear r3
 replace BK5 := Aside0.mk (HH.out.at2.gb BK5.out hR NE5.out.1 NE5.out.2.1)
 replace BK8 := Aside0.mk (HH.out.at2.gb BK8.out hR NE8.out.1 NE8.out.2.1)
 replace BK9 := Aside0.mk (HH.out.at2.gb BK9.out hR NE9.out.1 NE9.out.2.1)
 replace HH := Aside0.mk (HH.out.trans hR)
 clear hR
 have z0 : World.cell? wt ⟨g9, 0, none⟩ = some (.int .i64 0) := (blk_cell BK9.out 0).trans rfl
 have z1 : World.cell? wt ⟨g9, 1, none⟩ = some (.int .i64 0) := (blk_cell BK9.out 1).trans rfl
 have z2 : World.cell? wt ⟨g9, 2, none⟩ = some (.int .i64 0) := (blk_cell BK9.out 2).trans rfl
 have z3 : World.cell? wt ⟨g9, 3, none⟩ = some (.int .i64 0) := (blk_cell BK9.out 3).trans rfl
 have z4 : World.cell? wt ⟨g9, 4, none⟩ = some (.int .i64 0) := (blk_cell BK9.out 4).trans rfl
 have z5 : World.cell? wt ⟨g9, 5, none⟩ = some (.slice none 0 0) := (blk_cell BK9.out 5).trans rfl
 have z6 : World.cell? wt ⟨g9, 6, none⟩ = some (.slice none 0 0) := (blk_cell BK9.out 6).trans rfl
 have HPa := Aside0.mk (parts_any 0 wt)
 obtain ⟨s, hs⟩ : ∃ s, s = prS 0 := ⟨_, rfl⟩
 have qn : s.size = 0 := by rw [hs]; rfl
 rw [← hs] at HPa
 clear hs
 go_wp2_with fail
 refine HPa.out.mono ?_
 rintro r wp ⟨rfl, hb⟩
 clear z0 z1 z2 z3 z4 z5 z6
 clear HPa
 replace BK5 := Aside0.mk (blk_below BK5.out hb)
 replace BK8 := Aside0.mk (blk_below BK8.out hb)
 replace BK9 := Aside0.mk (blk_below BK9.out hb)
 replace HH := Aside0.mk (HH.out.below hb)
 clear hb
 go_wp2_with fail
 go_loopw [12] (fun v12 w' => v12 = .int .i64 0 ∧ w' = wp) (fun _ _ => 0)
 case atStart => exact ⟨rfl, rfl⟩
 case round =>
  obtain ⟨rfl, rfl⟩ := hrel
  have z0 : World.cell? _ ⟨g9, 0, none⟩ = some (.int .i64 0) := (blk_cell BK9.out 0).trans rfl
  have z1 : World.cell? _ ⟨g9, 1, none⟩ = some (.int .i64 0) := (blk_cell BK9.out 1).trans rfl
  have z2 : World.cell? _ ⟨g9, 2, none⟩ = some (.int .i64 0) := (blk_cell BK9.out 2).trans rfl
  have z3 : World.cell? _ ⟨g9, 3, none⟩ = some (.int .i64 0) := (blk_cell BK9.out 3).trans rfl
  have z4 : World.cell? _ ⟨g9, 4, none⟩ = some (.int .i64 0) := (blk_cell BK9.out 4).trans rfl
  have z5 : World.cell? _ ⟨g9, 5, none⟩ = some (.slice none 0 0) := (blk_cell BK9.out 5).trans rfl
  have z6 : World.cell? _ ⟨g9, 6, none⟩ = some (.slice none 0 0) := (blk_cell BK9.out 6).trans rfl
  have k0 : World.cell? _ ⟨g8, 0, none⟩ = some (.int .i64 0) := (blk_cell BK8.out 0).trans rfl
  have k1 : World.cell? _ ⟨g8, 1, none⟩ = some (.int .i64 0) := (blk_cell BK8.out 1).trans rfl
  have k2 : World.cell? _ ⟨g8, 2, none⟩ = some (.int .i64 0) := (blk_cell BK8.out 2).trans rfl
  have k3 : World.cell? _ ⟨g8, 3, none⟩ = some (.int .i64 0) := (blk_cell BK8.out 3).trans rfl
  have k4 : World.cell? _ ⟨g8, 4, none⟩ = some (.int .i64 0) := (blk_cell BK8.out 4).trans rfl
  have k5 : World.cell? _ ⟨g8, 5, none⟩ = some (.slice none 0 0) := (blk_cell BK8.out 5).trans rfl
  have k6 : World.cell? _ ⟨g8, 6, none⟩ = some (.slice none 0 0) := (blk_cell BK8.out 6).trans rfl
  have q0 := blk_frozen BK8.out 0
  have q1 := blk_frozen BK8.out 1
  have q2 := blk_frozen BK8.out 2
  have q3 := blk_frozen BK8.out 3
  have q4 := blk_frozen BK8.out 4
  have q5 := blk_frozen BK8.out 5
  have q6 := blk_frozen BK8.out 6
  go_wp2_with fail
  have hE := HH.out.set7 g8 (.int .i64 0) (.int .i64 0) (.int .i64 0) (.int .i64 0) (.int .i64 0) (.slice none 0 0) (.slice none 0 0) NE8.out.1 NE8.out.2.1 NE8.out.2.2.1 NE8.out.2.2.2
  have hK := set7_at BK8.out (.int .i64 0) (.int .i64 0) (.int .i64 0) (.int .i64 0) (.int .i64 0) (.slice none 0 0) (.slice none 0 0)
  try simp only [Exit.inBlock, Exit.then]
  refine bodyPost_ret (results_cell_row rfl _ _ g8 50 #[.int .i64 0, .int .i64 0, .int .i64 0, .int .i64 0, .int .i64 0, .slice none 0 0, .slice none 0 0] (0, 0) _ rfl hK Tryd.underlying50 rfl (by kernel_rfl)) rfl ?_
  refine ⟨x0Of 0, _, _, _, _, _, _, _, rfl, Kd.R_nil _ _ _ _ _, Kd.R_nil _ _ _ _ _, HO0.out.trans hE, fun h => absurd h (by decide), fun _ => ?_⟩
  unfold instrR
  rw [if_neg (show ¬ q + 1 ≤ bs.length by rw [← Hn.out]; exact H1.out), ← Hn.out]
  rfl
set_option maxHeartbeats 32000000 in
set_option maxRecDepth 100000 in
theorem rdinstr_ok (P R V : Int) (A3 : Option Addr) (n3 c3 : Nat) (M : Int) (last : Bool) (bs : List Int) (q : Nat) (h : Rw Wz w0 w gr g G A fs.length c locs 0 Ab nb cb (q : Int) from_ off) (hn : nb = bs.length) (hB : kB.C Wz Ab nb bs) (hby : ∀ x ∈ bs, 0 ≤ x ∧ x ≤ 255) (hq : q ≤ nb) (hz : Wz.heap.size ≤ w.heap.size) (h1 : q + 1 ≤ nb)
  (hl0 : 0 ≤ locs) (hl1 : locs < 1048576) (hF : HeadsC w A fs) (hA : ∀ ad, A = some ad → ad.block ≠ gr ∧ ad.block ≠ g) (hm : fs.length ≤ 9223372036854775807) :
  Calls Tryd.prog 53 #[.pointer (some ⟨gr, 0, none⟩), .agg #[.int .i64 P, .int .i64 R, .int .i64 V, .slice A3 n3 c3], .int .i64 M, .bool last] w fun r w' => RdI Wz w0 w gr g G A fs.length c Ab nb cb off (instrR G fs R V M bs last q locs) r w' := by
 have HO0 := Aside0.mk h
 have HH := Aside0.mk h.at2
 have HB := Aside0.mk (Below.refl w.heap.size w)
 have HGr : Aside0 (gr < w.heap.size ∧ g < w.heap.size) := ⟨blk_lt h.rb, blk_lt h.wb⟩
 have HBs := Aside0.mk hB
 have HBy := Aside0.mk hby
 have Hn := Aside0.mk hn
 have Hq := Aside0.mk hq
 have Hz := Aside0.mk hz
 have Hm := Aside0.mk hm
 have HL := Aside0.mk (And.intro hl0 hl1)
 have HF0 := Aside0.mk hF
 have HAd := Aside0.mk hA
 have HNo := Aside0.mk (num_one bs q hby)
 have HBn := Aside0.mk (byte_at hby q)
 clear h hB hby hn hq hz hl0 hl1 hF hA hm
 go_enter Tryd.func53, Tryd.ntmps53
 go_wp2_with (first | ((with_reducible refine gate_dst (N := 5) rfl ?_); refine box_event ?hg (N := 5) ?hd (cs := #[.int .i64 P, .int .i64 R, .int .i64 V, .slice A3 n3 c3]) (t := 46) ?hr ?_; (case hd => rfl); (case hg => rfl); (case hr => first | (go_simp; done) | (go_simp; rfl)); intro g5 hg w5 hbox hb; have G5 : Aside0 (w.heap.size ≤ g5) := ⟨by have := HB.out.size; omega⟩; replace HB := Aside0.mk (HB.out.trans (hb.mono HB.out.size)); replace HH := Aside0.mk (HH.out.below hb); have BK5 := Aside0.mk hbox; clear hg hbox hb; have NE5 : Aside0 (g5 ≠ gr ∧ g5 ≠ g ∧ w.heap.size ≤ g5 ∧ Wz.heap.size ≤ g5) := ⟨by have := G5.out; have := HGr.out; have := Hz.out; omega⟩) | ((with_reducible refine gate_dst (N := 8) rfl ?_); refine box_event ?hg (N := 8) ?hd (cs := #[.int .i64 0, .int .i64 0, .int .i64 0, .int .i64 0, .int .i64 0, .slice none 0 0, .slice none 0 0]) (t := 50) ?hr ?_; (case hd => rfl); (case hg => rfl); (case hr => first | (go_simp; done) | (go_simp; rfl)); intro g8 hg w8 hbox hb; have G8 : Aside0 (w.heap.size ≤ g8) := ⟨by have := HB.out.size; omega⟩; replace HB := Aside0.mk (HB.out.trans (hb.mono HB.out.size)); replace HH := Aside0.mk (HH.out.below hb); replace BK5 := Aside0.mk (blk_below BK5.out hb); have BK8 := Aside0.mk hbox; clear hg hbox hb; have NE8 : Aside0 (g8 ≠ gr ∧ g8 ≠ g ∧ w.heap.size ≤ g8 ∧ Wz.heap.size ≤ g8) := ⟨by have := G8.out; have := HGr.out; have := Hz.out; omega⟩; have NE58 : Aside0 (g5 ≠ g8) := ⟨by have h1 := BK5.out; have h2 := BK8.out; intro e; rw [e, h2] at h1; cases h1⟩))
 refine (rthing_ok 1 (by omega) bs q HH.out.at2 Hn.out HBs.out HBy.out h1).mono ?_
 rintro r w1 ⟨rfl, hR⟩
 rw [HNo.out]
 replace BK5 := Aside0.mk (HH.out.at2.gb BK5.out hR NE5.out.1 NE5.out.2.1)
 replace BK8 := Aside0.mk (HH.out.at2.gb BK8.out hR NE8.out.1 NE8.out.2.1)
 replace HH := Aside0.mk (HH.out.trans hR)
 clear hR
 have H1 := Aside0.mk h1
 clear h1
 obtain ⟨v, hv⟩ : ∃ v, v = bs.getD q 0 := ⟨_, rfl⟩
 have HV := Aside0.mk hv
 have HBv : Aside0 (0 ≤ v ∧ v ≤ 255) := ⟨by rw [hv]; exact HBn.out⟩
 rw [← hv]
 clear hv
 have HW1 : Aside0 (w.heap.size ≤ w1.heap.size ∧ g5 < w1.heap.size ∧ g8 < w1.heap.size) := ⟨HH.out.sz, blk_lt BK5.out, blk_lt BK8.out⟩
 clear HB
 have HB := Aside0.mk (Below.refl w1.heap.size w1)
 go_wp2_with ((with_reducible refine gate_dst (N := 9) rfl ?_); refine box_event ?hg (N := 9) ?hd (cs := #[.int .i64 0, .int .i64 0, .int .i64 0, .int .i64 0, .int .i64 0, .slice none 0 0, .slice none 0 0]) (t := 50) ?hr ?_; (case hd => rfl); (case hg => rfl); (case hr => first | (go_simp; done) | (go_simp; rfl)); intro g9 hg w9 hbox hb; have G9 : Aside0 (w1.heap.size ≤ g9) := ⟨by have := HB.out.size; omega⟩; replace HB := Aside0.mk (HB.out.trans (hb.mono HB.out.size)); replace HH := Aside0.mk (HH.out.below hb); replace BK5 := Aside0.mk (blk_below BK5.out hb); replace BK8 := Aside0.mk (blk_below BK8.out hb); have BK9 := Aside0.mk hbox; clear hg hbox hb; have NE9 : Aside0 (g9 ≠ gr ∧ g9 ≠ g ∧ w.heap.size ≤ g9 ∧ Wz.heap.size ≤ g9) := ⟨by have := G9.out; have := HGr.out; have := Hz.out; have := HW1.out; omega⟩; have NE9b : Aside0 (g5 ≠ g9 ∧ g8 ≠ g9) := ⟨by have := G9.out; have := HW1.out; omega⟩; have k0 : World.cell? w9 ⟨g9, 0, none⟩ = some (.int .i64 0) := (blk_cell BK9.out 0).trans rfl; have k1 : World.cell? w9 ⟨g9, 1, none⟩ = some (.int .i64 0) := (blk_cell BK9.out 1).trans rfl; have k2 : World.cell? w9 ⟨g9, 2, none⟩ = some (.int .i64 0) := (blk_cell BK9.out 2).trans rfl; have k3 : World.cell? w9 ⟨g9, 3, none⟩ = some (.int .i64 0) := (blk_cell BK9.out 3).trans rfl; have k4 : World.cell? w9 ⟨g9, 4, none⟩ = some (.int .i64 0) := (blk_cell BK9.out 4).trans rfl; have k5 : World.cell? w9 ⟨g9, 5, none⟩ = some (.slice none 0 0) := (blk_cell BK9.out 5).trans rfl; have k6 : World.cell? w9 ⟨g9, 6, none⟩ = some (.slice none 0 0) := (blk_cell BK9.out 6).trans rfl; have q0 := blk_frozen BK9.out 0; have q1 := blk_frozen BK9.out 1; have q2 := blk_frozen BK9.out 2; have q3 := blk_frozen BK9.out 3; have q4 := blk_frozen BK9.out 4; have q5 := blk_frozen BK9.out 5; have q6 := blk_frozen BK9.out 6)
 clear k0 k1 k2 k3 k4 k5 k6 q0 q1 q2 q3 q4 q5 q6
 have H2 := Aside0.mk ((((((((HH.out).other g9 0 (.int .i64 v) NE9.out.1 NE9.out.2.1 NE9.out.2.2.1 NE9.out.2.2.2).other g9 1 (.int .i64 0) NE9.out.1 NE9.out.2.1 NE9.out.2.2.1 NE9.out.2.2.2).other g9 2 (.int .i64 0) NE9.out.1 NE9.out.2.1 NE9.out.2.2.1 NE9.out.2.2.2).other g9 3 (.int .i64 0) NE9.out.1 NE9.out.2.1 NE9.out.2.2.1 NE9.out.2.2.2).other g9 4 (.int .i64 0) NE9.out.1 NE9.out.2.1 NE9.out.2.2.1 NE9.out.2.2.2).other g9 5 (.slice none 0 0) NE9.out.1 NE9.out.2.1 NE9.out.2.2.1 NE9.out.2.2.2).other g9 6 (.slice none 0 0) NE9.out.1 NE9.out.2.1 NE9.out.2.2.1 NE9.out.2.2.2)
 have B5 := Aside0.mk (((Below.heap_setCell (World.setCell (World.setCell (World.setCell (World.setCell (World.setCell (World.setCell w9 ⟨g9, 0, none⟩ (.int .i64 v)) ⟨g9, 1, none⟩ (.int .i64 0)) ⟨g9, 2, none⟩ (.int .i64 0)) ⟨g9, 3, none⟩ (.int .i64 0)) ⟨g9, 4, none⟩ (.int .i64 0)) ⟨g9, 5, none⟩ (.slice none 0 0)) ⟨g9, 6, none⟩ (.slice none 0 0) g5 NE9b.out.1).trans (((Below.heap_setCell (World.setCell (World.setCell (World.setCell (World.setCell (World.setCell w9 ⟨g9, 0, none⟩ (.int .i64 v)) ⟨g9, 1, none⟩ (.int .i64 0)) ⟨g9, 2, none⟩ (.int .i64 0)) ⟨g9, 3, none⟩ (.int .i64 0)) ⟨g9, 4, none⟩ (.int .i64 0)) ⟨g9, 5, none⟩ (.slice none 0 0) g5 NE9b.out.1).trans (((Below.heap_setCell (World.setCell (World.setCell (World.setCell (World.setCell w9 ⟨g9, 0, none⟩ (.int .i64 v)) ⟨g9, 1, none⟩ (.int .i64 0)) ⟨g9, 2, none⟩ (.int .i64 0)) ⟨g9, 3, none⟩ (.int .i64 0)) ⟨g9, 4, none⟩ (.int .i64 0) g5 NE9b.out.1).trans (((Below.heap_setCell (World.setCell (World.setCell (World.setCell w9 ⟨g9, 0, none⟩ (.int .i64 v)) ⟨g9, 1, none⟩ (.int .i64 0)) ⟨g9, 2, none⟩ (.int .i64 0)) ⟨g9, 3, none⟩ (.int .i64 0) g5 NE9b.out.1).trans (((Below.heap_setCell (World.setCell (World.setCell w9 ⟨g9, 0, none⟩ (.int .i64 v)) ⟨g9, 1, none⟩ (.int .i64 0)) ⟨g9, 2, none⟩ (.int .i64 0) g5 NE9b.out.1).trans (((Below.heap_setCell (World.setCell w9 ⟨g9, 0, none⟩ (.int .i64 v)) ⟨g9, 1, none⟩ (.int .i64 0) g5 NE9b.out.1).trans (((Below.heap_setCell w9 ⟨g9, 0, none⟩ (.int .i64 v) g5 NE9b.out.1).trans (BK5.out)))))))))))))))
 have B8 := Aside0.mk (((Below.heap_setCell (World.setCell (World.setCell (World.setCell (World.setCell (World.setCell (World.setCell w9 ⟨g9, 0, none⟩ (.int .i64 v)) ⟨g9, 1, none⟩ (.int .i64 0)) ⟨g9, 2, none⟩ (.int .i64 0)) ⟨g9, 3, none⟩ (.int .i64 0)) ⟨g9, 4, none⟩ (.int .i64 0)) ⟨g9, 5, none⟩ (.slice none 0 0)) ⟨g9, 6, none⟩ (.slice none 0 0) g8 NE9b.out.2).trans (((Below.heap_setCell (World.setCell (World.setCell (World.setCell (World.setCell (World.setCell w9 ⟨g9, 0, none⟩ (.int .i64 v)) ⟨g9, 1, none⟩ (.int .i64 0)) ⟨g9, 2, none⟩ (.int .i64 0)) ⟨g9, 3, none⟩ (.int .i64 0)) ⟨g9, 4, none⟩ (.int .i64 0)) ⟨g9, 5, none⟩ (.slice none 0 0) g8 NE9b.out.2).trans (((Below.heap_setCell (World.setCell (World.setCell (World.setCell (World.setCell w9 ⟨g9, 0, none⟩ (.int .i64 v)) ⟨g9, 1, none⟩ (.int .i64 0)) ⟨g9, 2, none⟩ (.int .i64 0)) ⟨g9, 3, none⟩ (.int .i64 0)) ⟨g9, 4, none⟩ (.int .i64 0) g8 NE9b.out.2).trans (((Below.heap_setCell (World.setCell (World.setCell (World.setCell w9 ⟨g9, 0, none⟩ (.int .i64 v)) ⟨g9, 1, none⟩ (.int .i64 0)) ⟨g9, 2, none⟩ (.int .i64 0)) ⟨g9, 3, none⟩ (.int .i64 0) g8 NE9b.out.2).trans (((Below.heap_setCell (World.setCell (World.setCell w9 ⟨g9, 0, none⟩ (.int .i64 v)) ⟨g9, 1, none⟩ (.int .i64 0)) ⟨g9, 2, none⟩ (.int .i64 0) g8 NE9b.out.2).trans (((Below.heap_setCell (World.setCell w9 ⟨g9, 0, none⟩ (.int .i64 v)) ⟨g9, 1, none⟩ (.int .i64 0) g8 NE9b.out.2).trans (((Below.heap_setCell w9 ⟨g9, 0, none⟩ (.int .i64 v) g8 NE9b.out.2).trans (BK8.out)))))))))))))))
 have B9 : Aside0 ((World.heap (World.setCell (World.setCell (World.setCell (World.setCell (World.setCell (World.setCell (World.setCell w9 ⟨g9, 0, none⟩ (.int .i64 v)) ⟨g9, 1, none⟩ (.int .i64 0)) ⟨g9, 2, none⟩ (.int .i64 0)) ⟨g9, 3, none⟩ (.int .i64 0)) ⟨g9, 4, none⟩ (.int .i64 0)) ⟨g9, 5, none⟩ (.slice none 0 0)) ⟨g9, 6, none⟩ (.slice none 0 0)))[g9]? = some (.cells #[.int .i64 v, .int .i64 0, .int .i64 0, .int .i64 0, .int .i64 0, .slice none 0 0, .slice none 0 0] 50 (0, 0))) := ⟨set7_at BK9.out (.int .i64 v) (.int .i64 0) (.int .i64 0) (.int .i64 0) (.int .i64 0) (.slice none 0 0) (.slice none 0 0)⟩
 obtain ⟨wa, hwa⟩ : ∃ wa, wa = (World.setCell (World.setCell (World.setCell (World.setCell (World.setCell (World.setCell (World.setCell w9 ⟨g9, 0, none⟩ (.int .i64 v)) ⟨g9, 1, none⟩ (.int .i64 0)) ⟨g9, 2, none⟩ (.int .i64 0)) ⟨g9, 3, none⟩ (.int .i64 0)) ⟨g9, 4, none⟩ (.int .i64 0)) ⟨g9, 5, none⟩ (.slice none 0 0)) ⟨g9, 6, none⟩ (.slice none 0 0)) := ⟨_, rfl⟩
 rw [← hwa] at H2 B5 B8 B9 ⊢
 clear hwa HH BK5 BK8 BK9 HB
 have HH := H2
 have BK5 := B5
 have BK8 := B8
 have BK9 := B9
 clear H2 B5 B8 B9
 refine (ropen_any HH.out.at2).mono ?_
 rintro r w2 ⟨rfl, rfl⟩
 rw [show ((0 : Int) == 0) = true from rfl]
 have r0 := HH.out.r0
 have z0 : World.cell? wa ⟨g9, 0, none⟩ = some (.int .i64 v) := (blk_cell BK9.out 0).trans rfl
 have z1 : World.cell? wa ⟨g9, 1, none⟩ = some (.int .i64 0) := (blk_cell BK9.out 1).trans rfl
 have z2 : World.cell? wa ⟨g9, 2, none⟩ = some (.int .i64 0) := (blk_cell BK9.out 2).trans rfl
 have z3 : World.cell? wa ⟨g9, 3, none⟩ = some (.int .i64 0) := (blk_cell BK9.out 3).trans rfl
 have z4 : World.cell? wa ⟨g9, 4, none⟩ = some (.int .i64 0) := (blk_cell BK9.out 4).trans rfl
 have z5 : World.cell? wa ⟨g9, 5, none⟩ = some (.slice none 0 0) := (blk_cell BK9.out 5).trans rfl
 have z6 : World.cell? wa ⟨g9, 6, none⟩ = some (.slice none 0 0) := (blk_cell BK9.out 6).trans rfl
 obtain ⟨e0, he0⟩ : ∃ e0, e0 = opE locs (x0Of v) last := ⟨_, rfl⟩
 have HE := Aside0.mk he0
 clear he0
 have HOp : Aside0 (Calls Tryd.prog 62 #[.pointer (some ⟨g, 0, none⟩), .agg #[.int .i64 v, .int .i64 0, .int .i64 0, .int .i64 0, .int .i64 0, .slice none 0 0, .slice none 0 0], .bool last] wa.drew fun r w' => r = .returned (.tuple #[]) ∧ Wk Wz wa.drew w' g G A fs.length c (locs + newL (x0Of v)) e0) := ⟨by have h := rop_any (x0Of v) none 0 none 0 last HH.out.drew.walk HL.out.1 (by have := HL.out.2; omega); rw [op_seq locs (x0Of v) last 0 HL.out.2, seqE_zero, ← HE.out] at h; exact h⟩
 go_wp2_with fail
 refine start_ (n := 7) (S := fun w' => w'.cell? ⟨gr, 0, none⟩ = some (.pointer (some ⟨g, 0, none⟩)) ∧ w'.cell? ⟨g9, 0, none⟩ = some (.int .i64 v) ∧ w'.cell? ⟨g9, 1, none⟩ = some (.int .i64 0) ∧ w'.cell? ⟨g9, 2, none⟩ = some (.int .i64 0) ∧ w'.cell? ⟨g9, 3, none⟩ = some (.int .i64 0) ∧ w'.cell? ⟨g9, 4, none⟩ = some (.int .i64 0) ∧ w'.cell? ⟨g9, 5, none⟩ = some (.slice none 0 0) ∧ w'.cell? ⟨g9, 6, none⟩ = some (.slice none 0 0)) (ds := [6]) #[false, false, false, false, false, false, false] (by kernel_rfl) rfl rfl ⟨r0, z0, z1, z2, z3, z4, z5, z6⟩ (fun hHeld => ?_)
 refine with_tabW TAB_53.tab4 TAB_53.bits4 (fun HT_ HW_ => ?_)
 refine pq 0 (some 19) HT_ rfl rfl (fun _ _ _ h => h) ?_
 refine pq 1 (some 20) HT_ rfl rfl (fun _ _ _ h => h) ?_
 refine pq 2 (some 21) HT_ rfl rfl (fun _ _ _ h => h) ?_
 refine pq 5 (some 24) HT_ rfl rfl (fun _ _ _ h => h) ?_
 refine pt 3 (some 22) (v := ?_) (a' := ?_) rfl rfl (take_ofW HT_.out HW_.out (by kernel_rfl)) (fun _ _ _ h => h) (Or.inl ⟨by rfl, ?_⟩) hHeld ?_ ?_
 rotate_left; (rintro w' ⟨s0, s1, s2, s3, s4, s5, s6, s7⟩; go_simp; with_reducible rfl); rotate_left; (simp only [Act.put, pn, i64_w, i32_w]; rfl)
 refine pt 4 (some 23) (v := ?_) (a' := ?_) rfl rfl (take_ofW HT_.out HW_.out (by kernel_rfl)) (fun _ _ _ h => h) (Or.inl ⟨by rfl, ?_⟩) hHeld ?_ ?_
 rotate_left; (rintro w' ⟨s0, s1, s2, s3, s4, s5, s6, s7⟩; go_simp; with_reducible rfl); rotate_left; (simp only [Act.put, pn, i64_w, i32_w]; rfl)
 refine last_ (i := 6) (N := some 25) #[true, true, true, true, true, true, true] rfl rfl (one_of HT_.out (by kernel_rfl)) (by decide) (fun K hK => ?_)
 refine goes_ Tryd.func62 (by kernel_rfl) rfl #[.pointer (some ⟨g, 0, none⟩), .agg #[.int .i64 v, .int .i64 0, .int .i64 0, .int .i64 0, .int .i64 0, .slice none 0 0, .slice none 0 0], .bool last] (by rfl) rfl rfl (by simp only [List.map_toArray, List.map_cons, List.map_nil]; rfl) ?_
 with_reducible refine HOp.out.mono ?_
 rintro e_ wm ⟨rfl, hW⟩
 refine ⟨_, rfl, ?_⟩
 have hR := HH.out.at2.drew.walked hW
 clear hW
 replace BK5 := Aside0.mk (HH.out.at2.gb BK5.out hR NE5.out.1 NE5.out.2.1)
 replace BK8 := Aside0.mk (HH.out.at2.gb BK8.out hR NE8.out.1 NE8.out.2.1)
 replace BK9 := Aside0.mk (HH.out.at2.gb BK9.out hR NE9.out.1 NE9.out.2.1)
 replace HH := Aside0.mk (HH.out.trans hR)
 clear hR
 refine hK.out _ _ ?_
 clear hK K
 refine norm_ (a' := ?_) ?_ ?_
 rotate_left
 ·show Act.put _ (some 25) _ = _
  simp only [Act.put, pn, i64_w, i32_w]
  rfl
 refine done_ (done_of HT_.out (by kernel_rfl)) ?_
 clear HT_ HW_ hHeld r0 HOp z0 z1 z2 z3 z4 z5 z6
 have r3 := HH.out.r3
 go_wp2_with fail
 refine (rtold_any true (q : Int) HH.out.at2).mono ?_
 rintro r wt ⟨rfl, hR⟩
 clear r3
 replace BK5 := Aside0.mk (HH.out.at2.gb BK5.out hR NE5.out.1 NE5.out.2.1)
 replace BK8 := Aside0.mk (HH.out.at2.gb BK8.out hR NE8.out.1 NE8.out.2.1)
 replace BK9 := Aside0.mk (HH.out.at2.gb BK9.out hR NE9.out.1 NE9.out.2.1)
 replace HH := Aside0.mk (HH.out.trans hR)
 clear hR
 have z0 : World.cell? wt ⟨g9, 0, none⟩ = some (.int .i64 v) := (blk_cell BK9.out 0).trans rfl
 have z1 : World.cell? wt ⟨g9, 1, none⟩ = some (.int .i64 0) := (blk_cell BK9.out 1).trans rfl
 have z2 : World.cell? wt ⟨g9, 2, none⟩ = some (.int .i64 0) := (blk_cell BK9.out 2).trans rfl
 have z3 : World.cell? wt ⟨g9, 3, none⟩ = some (.int .i64 0) := (blk_cell BK9.out 3).trans rfl
 have z4 : World.cell? wt ⟨g9, 4, none⟩ = some (.int .i64 0) := (blk_cell BK9.out 4).trans rfl
 have z5 : World.cell? wt ⟨g9, 5, none⟩ = some (.slice none 0 0) := (blk_cell BK9.out 5).trans rfl
 have z6 : World.cell? wt ⟨g9, 6, none⟩ = some (.slice none 0 0) := (blk_cell BK9.out 6).trans rfl
 have HPa := Aside0.mk (parts_any v wt)
 obtain ⟨s, hs⟩ : ∃ s, s = prS v := ⟨_, rfl⟩
 have HS := Aside0.mk hs
 have HSz : Aside0 (s.size = (partsOf v.toNat).length) := ⟨by rw [hs]; unfold prS; show ((partsOf v.toNat).map _).toArray.size = _; simp⟩
 rw [← hs] at HPa
 clear hs
 go_wp2_with fail
 refine HPa.out.mono ?_
 rintro r wp ⟨rfl, hb⟩
 clear z0 z1 z2 z3 z4 z5 z6
 clear HPa
 replace BK5 := Aside0.mk (blk_below BK5.out hb)
 replace BK8 := Aside0.mk (blk_below BK8.out hb)
 replace BK9 := Aside0.mk (blk_below BK9.out hb)
 replace HH := Aside0.mk (HH.out.below hb)
 clear hb
 obtain ⟨np, hnp⟩ : ∃ np, np = (partsOf v.toNat).length := ⟨_, rfl⟩
 have HNp : Aside0 (np = (partsOf v.toNat).length ∧ np ≤ 3) := ⟨hnp, by rw [hnp]; exact partsOf_le _⟩
 rw [← hnp] at HSz
 clear hnp
 obtain ⟨L1, hL1⟩ : ∃ L1, L1 = locs + newL (x0Of v) := ⟨_, rfl⟩
 have HL1 := Aside0.mk hL1
 rw [← hL1] at HH
 clear hL1
 obtain ⟨o0, ho0⟩ : ∃ o0, o0 = toldO true e0 (q : Int) off := ⟨_, rfl⟩
 have HO1 := Aside0.mk ho0
 rw [← ho0] at HH
 clear ho0
 have HFin : Aside0 (∀ x p, e0 = 0 → partsR G fs R V M bs v.toNat (x0Of v) (q + 1) np = .ok (x, p) → instrR G fs R V M bs last q locs = .ok (x, p, L1)) := ⟨fun x p h0 hp => by unfold instrR; rw [if_pos (show q + 1 ≤ bs.length by rw [← Hn.out]; exact H1.out), ← HV.out, ← HE.out, if_pos h0, ← HNp.out.1, hp, HL1.out]⟩
 have HBad : Aside0 (∀ er, e0 = 0 → partsR G fs R V M bs v.toNat (x0Of v) (q + 1) np = .error er → instrR G fs R V M bs last q locs = .error er) := ⟨fun er h0 hp => by unfold instrR; rw [if_pos (show q + 1 ≤ bs.length by rw [← Hn.out]; exact H1.out), ← HV.out, ← HE.out, if_pos h0, ← HNp.out.1, hp]⟩
 have HOpE : Aside0 (e0 ≠ 0 → instrR G fs R V M bs last q locs = .error (e0, o0)) := ⟨fun h0 => by unfold instrR; rw [if_pos (show q + 1 ≤ bs.length by rw [← Hn.out]; exact H1.out), ← HV.out, ← HE.out, if_neg h0, HO1.out]; unfold toldO; rw [if_pos ⟨rfl, h0, by rw [HE.out]; exact opE_ne11 _ _ _⟩]⟩
 have HOz : Aside0 (e0 = 0 → o0 = off) := ⟨fun h0 => by rw [HO1.out]; unfold toldO; rw [if_neg (fun h => h.2.1 h0)]⟩
 have H18 : Aside0 (e0 = 0 → v.toNat < 18) := ⟨fun h0 => by have h := HE.out; rw [h0] at h; unfold opE at h; by_cases c : 1 ≤ (x0Of v).f0 ∧ (x0Of v).f0 < 18; exact (by have : (x0Of v).f0 = v := rfl; omega); rw [if_neg c] at h; omega⟩
 have HX : Aside0 (XR w wp g9 (x0Of v)) := ⟨_, _, BK9.out, Kd.R_nil _ _ _ _ _, Kd.R_nil _ _ _ _ _⟩
 clear BK9
 go_wp2_with fail
 go_loopw [12] (fun v12 w' => ∃ (j : Nat) (x : S50) (e a f o : Int), j ≤ np ∧ v12 = .int .i64 (j : Int) ∧ Aside0 (Rw Wz w w' gr g G A fs.length c L1 e Ab nb cb a f o) ∧ Aside0 (XR w w' g9 x) ∧ Aside0 (w'.heap[g5]? = some (.cells #[.int .i64 P, .int .i64 R, .int .i64 V, .slice A3 n3 c3] 46 (0, 0))) ∧ Aside0 (w'.heap[g8]? = some (.cells #[.int .i64 0, .int .i64 0, .int .i64 0, .int .i64 0, .int .i64 0, .slice none 0 0, .slice none 0 0] 50 (0, 0))) ∧ Aside0 (x.f0 = v) ∧ Aside0 (e = 0 → e0 = 0 ∧ ∃ p : Nat, a = (p : Int) ∧ p ≤ nb ∧ o = off ∧ partsR G fs R V M bs v.toNat (x0Of v) (q + 1) j = .ok (x, p)) ∧ Aside0 (e ≠ 0 → instrR G fs R V M bs last q locs = .error (e, o))) (fun i _ => np - (intOf i).toNat)
 case atStart => exact ⟨0, x0Of v, _, _, _, _, Nat.zero_le _, rfl, HH, HX, BK5, BK8, ⟨rfl⟩, ⟨fun h => ⟨h, q + 1, rfl, H1.out, HOz.out h, rfl⟩⟩, ⟨fun h => HOpE.out h⟩⟩
 case round =>
  clear HH HX BK5 BK8
  obtain ⟨j, x, e, a, f, o, hj, rfl, HH, HX, BK5, BK8, HX0, HE0, HE1⟩ := hrel
  obtain ⟨wq, rfl⟩ : ∃ wq, wq = wr := ⟨_, rfl⟩
  obtain ⟨v5, v6, hXb, hX5, hX6⟩ := HX.out
  obtain ⟨A5, c5, rfl⟩ := Kd.R_slice hX5
  obtain ⟨A6, c6, rfl⟩ := Kd.R_slice hX6
  have BK9 : Aside0 (wq.heap[g9]? = some (.cells #[.int .i64 x.f0, .int .i64 x.f1, .int .i64 x.f2, .int .i64 x.f3, .int .i64 x.f4, .slice A5 x.f5.length c5, .slice A6 x.f6.length c6] 50 (0, 0))) := ⟨hXb⟩
  have HX5 := Aside0.mk hX5
  have HX6 := Aside0.mk hX6
  clear hXb hX5 hX6
  have HO := Aside0.mk (ropen_any HH.out.at2)
  by_cases hlt : j < np
  ·have hNb : decide ((j : Int) < (s.size : Int)) = true := decide_eq_true (by rw [HSz.out]; omega)
   by_cases he : e = 0
   ·rw [beq_iff_eq.2 he] at HO
    subst he
    obtain ⟨h0, p, rfl, hp, rfl, hpr⟩ := HE0.out rfl
    have hql : j < (partsOf v.toNat).length := by rw [← HNp.out.1]; exact hlt
    have hb0 : bt s (j : Int) = ((chOf (partsOf v.toNat)[j] : Nat) : Int) := by rw [HS.out]; exact bt_map _ j hql
    obtain ⟨pk, hpk⟩ : ∃ pk, pk = (partsOf v.toNat)[j] := ⟨_, rfl⟩
    have hpk2 : (partsOf v.toNat)[j]? = some pk := by rw [hpk]; exact List.getElem?_eq_getElem hql
    rw [← hpk] at hb0
    have HSt : Aside0 (∀ (x' : S50) (e' a' o' : Int), PartOk G fs R V M bs nb x p pk o x' e' a' o' → (e' = 0 → e0 = 0 ∧ ∃ p : Nat, a' = (p : Int) ∧ p ≤ nb ∧ o' = o ∧ partsR G fs R V M bs v.toNat (x0Of v) (q + 1) (j + 1) = .ok (x', p)) ∧ (e' ≠ 0 → instrR G fs R V M bs last q locs = .error (e', o'))) := ⟨fun x' e' a' o' hP => ⟨fun h => by obtain ⟨p', g1, g2, g3, g4⟩ := hP.1 h; exact ⟨h0, p', g1, g2, g3, (partsR_step hpr hpk2).trans g4⟩, fun h => HBad.out _ h0 (runE_err ((partsR_step hpr hpk2).trans (hP.2 h)) np (by omega))⟩⟩
    have HMay : Aside0 (mayAsk fs x pk) := ⟨may_take HBy.out j (x, p) pk (H18.out h0) hpr hpk2⟩
    have HEmp := Aside0.mk (parts_empty hpr hpk2 rfl rfl)
    have HSzn : Aside0 (numK pk = true → (tabL.getD v.toNat 0).toNat = szP (chOf pk)) := ⟨num_size (H18.out h0) hpk2⟩
    have HP := Aside0.mk hp
    have HLt := Aside0.mk hlt
    have hx7 : ∀ h : j < s.size, ((s[j]'h).toNat : Int) = ((chOf pk : Nat) : Int) := fun h => (bt_at s (j : Int) h).trans hb0
    have q0 : (0 : Int) ≤ (j : Int) := Int.natCast_nonneg j
    have qs : (j : Int) < (s.size : Int) := by rw [HSz.out]; exact Int.ofNat_lt.2 hlt
    have hwp : wrap64 ((j : Int) + 1) = (j : Int) + 1 := wrap_in (by omega) (by have := HNp.out; omega)
    clear hpk hpk2 hb0 hql hj h0 hp hpr HE0 HE1 hlt
    go_wp2_with fail
    refine HO.out.mono ?_
    rintro r w5 ⟨rfl, rfl⟩
    clear HO
    by_cases hk : numK pk = true
    ·obtain ⟨ch, hch⟩ : ∃ ch : Int, ch = ((chOf pk : Nat) : Int) := ⟨_, rfl⟩
     rw [← hch] at hx7
     have n82 : (ch == 82) = false := by rw [hch]; cases pk <;> first | rfl | (cases hk; done)
     have n83 : (ch == 83) = false := by rw [hch]; cases pk <;> first | rfl | (cases hk; done)
     have n84 : (ch == 84) = false := by rw [hch]; cases pk <;> first | rfl | (cases hk; done)
     have n65 : (ch == 65) = false := by rw [hch]; cases pk <;> first | rfl | (cases hk; done)
     have n86 : (ch == 86) = false := by rw [hch]; cases pk <;> first | rfl | (cases hk; done)
     have n66 : (ch == 66) = false := by rw [hch]; cases pk <;> first | rfl | (cases hk; done)
     have HCh := Aside0.mk hch
     have HNk := Aside0.mk hk
     clear hch hk
     go_wp2_with fail
     refine (rdnum_any ch M bs p HH.out.at2 Hn.out HBs.out HBy.out HP.out).mono ?_
     rintro r wv hV
     rw [HCh.out] at hV
     obtain ⟨v1, e', a', f', o', rfl, hR, hP⟩ := num_part (pk := pk) (R := R) (V := V) (x := x) (op := v.toNat) HNk.out (by rw [HX0.out]) (HSzn.out HNk.out) Hn.out hV
     clear hV n82 n83 n84 n65 n86 n66 hx7
     have HPk := Aside0.mk hP
     clear hP
     have HX2 := Aside0.mk (XR.rw HX.out hR HGr.out ⟨NE9.out.1, NE9.out.2.1⟩)
     replace BK5 := Aside0.mk (HH.out.at2.gb BK5.out hR NE5.out.1 NE5.out.2.1)
     replace BK8 := Aside0.mk (HH.out.at2.gb BK8.out hR NE8.out.1 NE8.out.2.1)
     replace BK9 := Aside0.mk (HH.out.at2.gb BK9.out hR NE9.out.1 NE9.out.2.1)
     replace HH := Aside0.mk (HH.out.trans hR)
     clear hR
     have z0 : World.cell? wv ⟨g9, 4, none⟩ = some (.int .i64 x.f4) := (blk_cell BK9.out 4).trans rfl
     have q1 := blk_frozen BK9.out 4
     go_wp2_with fail
     clear z0 q1
     have HHv := Aside0.mk (HH.out.other g9 4 (.int .i64 v1) NE9.out.1 NE9.out.2.1 NE9.out.2.2.1 NE9.out.2.2.2)
     have B5v := Aside0.mk ((Below.heap_setCell wv ⟨g9, 4, none⟩ (.int .i64 v1) g5 NE9b.out.1).trans BK5.out)
     have B8v := Aside0.mk ((Below.heap_setCell wv ⟨g9, 4, none⟩ (.int .i64 v1) g8 NE9b.out.2).trans BK8.out)
     have HXv := Aside0.mk (HX2.out.set 4 (by omega) v1)
     have HX0v : Aside0 ((setF x 4 v1).f0 = v) := ⟨(setF_0 _ _ _).trans HX0.out⟩
     clear HH HX HX2 BK5 BK8 BK9 HX5 HX6
     obtain ⟨E0, E1⟩ := HSt.out _ _ _ _ HPk.out
     have E0 := Aside0.mk E0
     have E1 := Aside0.mk E1
     go_roundw
     case rel => exact ⟨j + 1, _, _, _, _, _, Nat.succ_le_of_lt HLt.out, by go_num, HHv, HXv, B5v, B8v, HX0v, E0, E1⟩
     case measure => rw [hwp]; exact Nat.sub_lt_sub_left (show j < np from HLt.out) (show j < j + 1 from Nat.lt_succ_self j)
    ·cases pk
     case int => exact absurd rfl hk
     case fields => exact absurd rfl hk
     case field => exact absurd rfl hk
     case glob => exact absurd rfl hk
     case func => exact absurd rfl hk
     case jump => exact absurd rfl hk
     case R =>
      have hx8 : ∀ h : j < s.size, ((s[j]'h).toNat : Int) = 82 := hx7
      clear hx7
      have y0 : World.cell? _ ⟨g5, 0, none⟩ = some (.int .i64 P) := (blk_cell BK5.out 0).trans rfl
      have y1 : World.cell? _ ⟨g5, 1, none⟩ = some (.int .i64 R) := (blk_cell BK5.out 1).trans rfl
      have y2 : World.cell? _ ⟨g5, 2, none⟩ = some (.int .i64 V) := (blk_cell BK5.out 2).trans rfl
      have y3 : World.cell? _ ⟨g5, 3, none⟩ = some (.slice A3 n3 c3) := (blk_cell BK5.out 3).trans rfl
      go_wp2_with fail
      refine (rdvar_any P R V A3 n3 c3 bs p HH.out.at2 Hn.out HBs.out HBy.out HP.out).mono ?_
      rintro r wv hV
      obtain ⟨v1, e', a', f', o', rfl, hR, hP⟩ := var_part (fs := fs) (R := R) (M := M) (x := x) (.inl ⟨rfl, rfl⟩) Hn.out HBy.out hV
      clear hV y0 y1 y2 y3
      have HPk := Aside0.mk hP
      clear hP
      have HX2 := Aside0.mk (XR.rw HX.out hR HGr.out ⟨NE9.out.1, NE9.out.2.1⟩)
      replace BK5 := Aside0.mk (HH.out.at2.gb BK5.out hR NE5.out.1 NE5.out.2.1)
      replace BK8 := Aside0.mk (HH.out.at2.gb BK8.out hR NE8.out.1 NE8.out.2.1)
      replace BK9 := Aside0.mk (HH.out.at2.gb BK9.out hR NE9.out.1 NE9.out.2.1)
      replace HH := Aside0.mk (HH.out.trans hR)
      clear hR
      have z0 : World.cell? wv ⟨g9, 1, none⟩ = some (.int .i64 x.f1) := (blk_cell BK9.out 1).trans rfl
      have q1 := blk_frozen BK9.out 1
      go_wp2_with fail
      clear z0 q1
      have HHv := Aside0.mk (HH.out.other g9 1 (.int .i64 v1) NE9.out.1 NE9.out.2.1 NE9.out.2.2.1 NE9.out.2.2.2)
      have B5v := Aside0.mk ((Below.heap_setCell wv ⟨g9, 1, none⟩ (.int .i64 v1) g5 NE9b.out.1).trans BK5.out)
      have B8v := Aside0.mk ((Below.heap_setCell wv ⟨g9, 1, none⟩ (.int .i64 v1) g8 NE9b.out.2).trans BK8.out)
      have HXv := Aside0.mk (HX2.out.set 1 (by omega) v1)
      have HX0v : Aside0 ((setF x 1 v1).f0 = v) := ⟨(setF_0 _ _ _).trans HX0.out⟩
      clear HH HX HX2 BK5 BK8 BK9 HX5 HX6
      obtain ⟨E0, E1⟩ := HSt.out _ _ _ _ HPk.out
      have E0 := Aside0.mk E0
      have E1 := Aside0.mk E1
      go_roundw
      case rel => exact ⟨j + 1, _, _, _, _, _, Nat.succ_le_of_lt HLt.out, by go_num, HHv, HXv, B5v, B8v, HX0v, E0, E1⟩
      case measure => rw [hwp]; exact Nat.sub_lt_sub_left (show j < np from HLt.out) (show j < j + 1 from Nat.lt_succ_self j)
     case S =>
      have hx8 : ∀ h : j < s.size, ((s[j]'h).toNat : Int) = 83 := hx7
      clear hx7
      have y0 : World.cell? _ ⟨g5, 0, none⟩ = some (.int .i64 P) := (blk_cell BK5.out 0).trans rfl
      have y1 : World.cell? _ ⟨g5, 1, none⟩ = some (.int .i64 R) := (blk_cell BK5.out 1).trans rfl
      have y2 : World.cell? _ ⟨g5, 2, none⟩ = some (.int .i64 V) := (blk_cell BK5.out 2).trans rfl
      have y3 : World.cell? _ ⟨g5, 3, none⟩ = some (.slice A3 n3 c3) := (blk_cell BK5.out 3).trans rfl
      go_wp2_with fail
      refine (rdvar_any P R V A3 n3 c3 bs p HH.out.at2 Hn.out HBs.out HBy.out HP.out).mono ?_
      rintro r wv hV
      obtain ⟨v1, e', a', f', o', rfl, hR, hP⟩ := var_part (fs := fs) (R := R) (M := M) (x := x) (.inr (.inl ⟨rfl, rfl⟩)) Hn.out HBy.out hV
      clear hV y0 y1 y2 y3
      have HPk := Aside0.mk hP
      clear hP
      have HX2 := Aside0.mk (XR.rw HX.out hR HGr.out ⟨NE9.out.1, NE9.out.2.1⟩)
      replace BK5 := Aside0.mk (HH.out.at2.gb BK5.out hR NE5.out.1 NE5.out.2.1)
      replace BK8 := Aside0.mk (HH.out.at2.gb BK8.out hR NE8.out.1 NE8.out.2.1)
      replace BK9 := Aside0.mk (HH.out.at2.gb BK9.out hR NE9.out.1 NE9.out.2.1)
      replace HH := Aside0.mk (HH.out.trans hR)
      clear hR
      have z0 : World.cell? wv ⟨g9, 2, none⟩ = some (.int .i64 x.f2) := (blk_cell BK9.out 2).trans rfl
      have q1 := blk_frozen BK9.out 2
      go_wp2_with fail
      clear z0 q1
      have HHv := Aside0.mk (HH.out.other g9 2 (.int .i64 v1) NE9.out.1 NE9.out.2.1 NE9.out.2.2.1 NE9.out.2.2.2)
      have B5v := Aside0.mk ((Below.heap_setCell wv ⟨g9, 2, none⟩ (.int .i64 v1) g5 NE9b.out.1).trans BK5.out)
      have B8v := Aside0.mk ((Below.heap_setCell wv ⟨g9, 2, none⟩ (.int .i64 v1) g8 NE9b.out.2).trans BK8.out)
      have HXv := Aside0.mk (HX2.out.set 2 (by omega) v1)
      have HX0v : Aside0 ((setF x 2 v1).f0 = v) := ⟨(setF_0 _ _ _).trans HX0.out⟩
      clear HH HX HX2 BK5 BK8 BK9 HX5 HX6
      obtain ⟨E0, E1⟩ := HSt.out _ _ _ _ HPk.out
      have E0 := Aside0.mk E0
      have E1 := Aside0.mk E1
      go_roundw
      case rel => exact ⟨j + 1, _, _, _, _, _, Nat.succ_le_of_lt HLt.out, by go_num, HHv, HXv, B5v, B8v, HX0v, E0, E1⟩
      case measure => rw [hwp]; exact Nat.sub_lt_sub_left (show j < np from HLt.out) (show j < j + 1 from Nat.lt_succ_self j)
     case T =>
      have hx8 : ∀ h : j < s.size, ((s[j]'h).toNat : Int) = 84 := hx7
      clear hx7
      have y0 : World.cell? _ ⟨g5, 0, none⟩ = some (.int .i64 P) := (blk_cell BK5.out 0).trans rfl
      have y1 : World.cell? _ ⟨g5, 1, none⟩ = some (.int .i64 R) := (blk_cell BK5.out 1).trans rfl
      have y2 : World.cell? _ ⟨g5, 2, none⟩ = some (.int .i64 V) := (blk_cell BK5.out 2).trans rfl
      have y3 : World.cell? _ ⟨g5, 3, none⟩ = some (.slice A3 n3 c3) := (blk_cell BK5.out 3).trans rfl
      go_wp2_with fail
      refine (rdvar_any P R V A3 n3 c3 bs p HH.out.at2 Hn.out HBs.out HBy.out HP.out).mono ?_
      rintro r wv hV
      obtain ⟨v1, e', a', f', o', rfl, hR, hP⟩ := var_part (fs := fs) (R := R) (M := M) (x := x) (.inr (.inr ⟨rfl, rfl⟩)) Hn.out HBy.out hV
      clear hV y0 y1 y2 y3
      have HPk := Aside0.mk hP
      clear hP
      have HX2 := Aside0.mk (XR.rw HX.out hR HGr.out ⟨NE9.out.1, NE9.out.2.1⟩)
      replace BK5 := Aside0.mk (HH.out.at2.gb BK5.out hR NE5.out.1 NE5.out.2.1)
      replace BK8 := Aside0.mk (HH.out.at2.gb BK8.out hR NE8.out.1 NE8.out.2.1)
      replace BK9 := Aside0.mk (HH.out.at2.gb BK9.out hR NE9.out.1 NE9.out.2.1)
      replace HH := Aside0.mk (HH.out.trans hR)
      clear hR
      have z0 : World.cell? wv ⟨g9, 3, none⟩ = some (.int .i64 x.f3) := (blk_cell BK9.out 3).trans rfl
      have q1 := blk_frozen BK9.out 3
      go_wp2_with fail
      clear z0 q1
      have HHv := Aside0.mk (HH.out.other g9 3 (.int .i64 v1) NE9.out.1 NE9.out.2.1 NE9.out.2.2.1 NE9.out.2.2.2)
      have B5v := Aside0.mk ((Below.heap_setCell wv ⟨g9, 3, none⟩ (.int .i64 v1) g5 NE9b.out.1).trans BK5.out)
      have B8v := Aside0.mk ((Below.heap_setCell wv ⟨g9, 3, none⟩ (.int .i64 v1) g8 NE9b.out.2).trans BK8.out)
      have HXv := Aside0.mk (HX2.out.set 3 (by omega) v1)
      have HX0v : Aside0 ((setF x 3 v1).f0 = v) := ⟨(setF_0 _ _ _).trans HX0.out⟩
      clear HH HX HX2 BK5 BK8 BK9 HX5 HX6
      obtain ⟨E0, E1⟩ := HSt.out _ _ _ _ HPk.out
      have E0 := Aside0.mk E0
      have E1 := Aside0.mk E1
      go_roundw
      case rel => exact ⟨j + 1, _, _, _, _, _, Nat.succ_le_of_lt HLt.out, by go_num, HHv, HXv, B5v, B8v, HX0v, E0, E1⟩
      case measure => rw [hwp]; exact Nat.sub_lt_sub_left (show j < np from HLt.out) (show j < j + 1 from Nat.lt_succ_self j)
     case args =>
      have hx8 : ∀ h : j < s.size, ((s[j]'h).toNat : Int) = 65 := hx7
      clear hx7
      have HEm : Aside0 (x.f5 = []) := ⟨HEmp.out.1 (.inl rfl)⟩
      have y0 : World.cell? _ ⟨g5, 0, none⟩ = some (.int .i64 P) := (blk_cell BK5.out 0).trans rfl
      have y1 : World.cell? _ ⟨g5, 1, none⟩ = some (.int .i64 R) := (blk_cell BK5.out 1).trans rfl
      have y2 : World.cell? _ ⟨g5, 2, none⟩ = some (.int .i64 V) := (blk_cell BK5.out 2).trans rfl
      have y3 : World.cell? _ ⟨g5, 3, none⟩ = some (.slice A3 n3 c3) := (blk_cell BK5.out 3).trans rfl
      have z0 : World.cell? _ ⟨g9, 0, none⟩ = some (.int .i64 x.f0) := (blk_cell BK9.out 0).trans rfl
      have z1 : World.cell? _ ⟨g9, 1, none⟩ = some (.int .i64 x.f1) := (blk_cell BK9.out 1).trans rfl
      have z2 : World.cell? _ ⟨g9, 2, none⟩ = some (.int .i64 x.f2) := (blk_cell BK9.out 2).trans rfl
      have z3 : World.cell? _ ⟨g9, 3, none⟩ = some (.int .i64 x.f3) := (blk_cell BK9.out 3).trans rfl
      have z4 : World.cell? _ ⟨g9, 4, none⟩ = some (.int .i64 x.f4) := (blk_cell BK9.out 4).trans rfl
      have z5 : World.cell? _ ⟨g9, 5, none⟩ = some (.slice A5 x.f5.length c5) := (blk_cell BK9.out 5).trans rfl
      have z6 : World.cell? _ ⟨g9, 6, none⟩ = some (.slice A6 x.f6.length c6) := (blk_cell BK9.out 6).trans rfl
      go_wp2_with fail
      refine start_ (n := 9) (S := fun w' => w'.cell? ⟨g5, 0, none⟩ = some (.int .i64 P) ∧ w'.cell? ⟨g5, 1, none⟩ = some (.int .i64 R) ∧ w'.cell? ⟨g5, 2, none⟩ = some (.int .i64 V) ∧ w'.cell? ⟨g5, 3, none⟩ = some (.slice A3 n3 c3) ∧ w'.cell? ⟨g9, 0, none⟩ = some (.int .i64 x.f0) ∧ w'.cell? ⟨g9, 1, none⟩ = some (.int .i64 x.f1) ∧ w'.cell? ⟨g9, 2, none⟩ = some (.int .i64 x.f2) ∧ w'.cell? ⟨g9, 3, none⟩ = some (.int .i64 x.f3) ∧ w'.cell? ⟨g9, 4, none⟩ = some (.int .i64 x.f4) ∧ w'.cell? ⟨g9, 5, none⟩ = some (.slice A5 x.f5.length c5) ∧ w'.cell? ⟨g9, 6, none⟩ = some (.slice A6 x.f6.length c6)) (ds := [8]) #[false, false, false, false, false, false, false, false, false] (by kernel_rfl) rfl rfl ⟨y0, y1, y2, y3, z0, z1, z2, z3, z4, z5, z6⟩ (fun hHeld => ?_)
      refine with_tabW TAB_53.tab20 TAB_53.bits20 (fun HT_ HW_ => ?_)
      refine pq 0 (some 77) HT_ rfl rfl (fun _ _ _ h => h) ?_
      refine pq 1 (some 78) HT_ rfl rfl (fun _ _ _ h => h) ?_
      refine pq 2 (some 79) HT_ rfl rfl (fun _ _ _ h => h) ?_
      refine pt 3 (some 80) (v := ?_) (a' := ?_) rfl rfl (take_ofW HT_.out HW_.out (by kernel_rfl)) (fun _ _ _ h => h) (Or.inl ⟨by rfl, ?_⟩) hHeld ?_ ?_
      rotate_left; (rintro w' ⟨s0, s1, s2, s3, s4, s5, s6, s7, s8, s9, s10⟩; go_simp; with_reducible rfl); rotate_left; (simp only [Act.put, pn, i64_w, i32_w]; rfl)
      refine pt 4 (some 81) (v := ?_) (a' := ?_) rfl rfl (take_ofW HT_.out HW_.out (by kernel_rfl)) (fun _ _ _ h => h) (Or.inl ⟨by rfl, ?_⟩) hHeld ?_ ?_
      rotate_left; (rintro w' ⟨s0, s1, s2, s3, s4, s5, s6, s7, s8, s9, s10⟩; go_simp; with_reducible rfl); rotate_left; (simp only [Act.put, pn, i64_w, i32_w]; rfl)
      refine pt 5 (some 82) (v := ?_) (a' := ?_) rfl rfl (take_ofW HT_.out HW_.out (by kernel_rfl)) (fun _ _ _ h => h) (Or.inl ⟨by rfl, ?_⟩) hHeld ?_ ?_
      rotate_left; (rintro w' ⟨s0, s1, s2, s3, s4, s5, s6, s7, s8, s9, s10⟩; go_simp; with_reducible rfl); rotate_left; (simp only [Act.put, pn, i64_w, i32_w]; rfl)
      refine one_ (i := 6) (N := some 83) #[true, true, true, true, true, true, true, false, false] rfl rfl (one_of HT_.out (by kernel_rfl)) (by decide) (fun K hK => ?_)
      refine goes_ Tryd.func89 (by kernel_rfl) rfl #[.pointer (some ⟨gr, 0, none⟩), .int .u8 65, .agg #[.int .i64 P, .int .i64 R, .int .i64 V, .slice A3 n3 c3], .agg #[.int .i64 x.f0, .int .i64 x.f1, .int .i64 x.f2, .int .i64 x.f3, .int .i64 x.f4, .slice A5 x.f5.length c5, .slice A6 x.f6.length c6]] (by rfl) rfl rfl (by simp only [List.map_toArray, List.map_cons, List.map_nil]; rfl) ?_
      with_reducible refine (rdlist_any 65 P R V A3 n3 c3 x.f0 x.f1 x.f2 x.f3 x.f4 A5 x.f5.length c5 A6 x.f6.length c6 (wantE fs R x .args) bs p HH.out.drew.at2 Hn.out HBs.out HBy.out HP.out (WantW.below (want_w (HeadsC.rw HH.out HF0.out HAd.out) HMay.out (by simp) (by decide)) (below_drew (Below.refl _ _))) HAd.out Hm.out).mono ?_
      rintro e_ wv hV
      obtain ⟨v1, l, e', a', f', o', rfl, hRl, hR, hP⟩ := list_part (G := G) (fs := fs) (R := R) (M := M) (x := x) (pk := .args) (.inl ⟨.inl rfl, rfl⟩) Hn.out HBy.out hV
      obtain ⟨Al, cl, rfl⟩ := Kd.R_slice hRl
      refine ⟨_, rfl, ?_⟩
      have HRl : Aside0 (kI.R 3 wv w.heap.size (fun k => w.heap.size ≤ k) (.slice Al l.length cl) l) := ⟨Kd.R_mono (Kd.R_lower hRl HH.out.sz) (fun k hk => Nat.le_trans HH.out.sz hk)⟩
      replace hR := HH.out.at2.drew.trans hR
      have HPk := Aside0.mk hP
      clear hV hP hRl
      have HX2 := Aside0.mk (XR.rw HX.out hR HGr.out ⟨NE9.out.1, NE9.out.2.1⟩)
      replace BK5 := Aside0.mk (HH.out.at2.gb BK5.out hR NE5.out.1 NE5.out.2.1)
      replace BK8 := Aside0.mk (HH.out.at2.gb BK8.out hR NE8.out.1 NE8.out.2.1)
      replace BK9 := Aside0.mk (HH.out.at2.gb BK9.out hR NE9.out.1 NE9.out.2.1)
      replace HH := Aside0.mk (HH.out.trans hR)
      clear hR
      refine hK.out _ _ ⟨(blk_cell BK5.out 0).trans rfl, (blk_cell BK5.out 1).trans rfl, (blk_cell BK5.out 2).trans rfl, (blk_cell BK5.out 3).trans rfl, (blk_cell BK9.out 0).trans rfl, (blk_cell BK9.out 1).trans rfl, (blk_cell BK9.out 2).trans rfl, (blk_cell BK9.out 3).trans rfl, (blk_cell BK9.out 4).trans rfl, (blk_cell BK9.out 5).trans rfl, (blk_cell BK9.out 6).trans rfl⟩ (fun hHeld => ?_)
      clear hK K
      refine norm_ (a' := ?_) ?_ ?_
      rotate_left
      ·show Act.put _ (some 83) _ = _
       simp only [Act.put, pn, i64_w, i32_w]
       rfl
      refine pq 7 (some 84) HT_ rfl rfl (fun _ _ _ h => h) ?_
      refine last_ (i := 8) (N := none) #[true, true, true, true, true, true, true, true, true] rfl rfl (one_of HT_.out (by kernel_rfl)) (by decide) (fun K hK => ?_)
      have hfz := blk_frozen BK9.out 5
      refine skip_ (w1 := ?_) (by rfl) rfl ?_ ?_
      rotate_left
      ·go_simp
       rfl
      clear hfz
      refine hK.out _ _ ?_
      clear hK K
      refine done_ (done_of HT_.out (by kernel_rfl)) ?_
      clear HT_ HW_ hHeld y0 y1 y2 y3 z0 z1 z2 z3 z4 z5 z6
      have HHv := Aside0.mk (HH.out.other g9 5 (.slice Al l.length cl) NE9.out.1 NE9.out.2.1 NE9.out.2.2.1 NE9.out.2.2.2)
      have B5v := Aside0.mk ((Below.heap_setCell wv ⟨g9, 5, none⟩ (.slice Al l.length cl) g5 NE9b.out.1).trans BK5.out)
      have B8v := Aside0.mk ((Below.heap_setCell wv ⟨g9, 5, none⟩ (.slice Al l.length cl) g8 NE9b.out.2).trans BK8.out)
      have HXv := Aside0.mk (XR.set5 HX2.out HRl.out HEm.out)
      have HX0v : Aside0 ((setL x 5 l).f0 = v) := ⟨(setL_0 _ _ _).trans HX0.out⟩
      clear HH HX HX2 BK5 BK8 BK9 HX5 HX6 HRl
      obtain ⟨wy, hwy⟩ : ∃ wy, wy = World.setCell wv ⟨g9, 5, none⟩ (.slice Al l.length cl) := ⟨_, rfl⟩
      rw [← hwy] at HHv B5v B8v HXv ⊢
      clear hwy
      go_wp2_with fail
      obtain ⟨E0, E1⟩ := HSt.out _ _ _ _ HPk.out
      have E0 := Aside0.mk E0
      have E1 := Aside0.mk E1
      go_roundw
      case rel => exact ⟨j + 1, _, _, _, _, _, Nat.succ_le_of_lt HLt.out, by go_num, HHv, HXv, B5v, B8v, HX0v, E0, E1⟩
      case measure => rw [hwp]; exact Nat.sub_lt_sub_left (show j < np from HLt.out) (show j < j + 1 from Nat.lt_succ_self j)
     case rets =>
      have hx8 : ∀ h : j < s.size, ((s[j]'h).toNat : Int) = 66 := hx7
      clear hx7
      have HEm : Aside0 (x.f6 = []) := ⟨HEmp.out.2 rfl⟩
      have y0 : World.cell? _ ⟨g5, 0, none⟩ = some (.int .i64 P) := (blk_cell BK5.out 0).trans rfl
      have y1 : World.cell? _ ⟨g5, 1, none⟩ = some (.int .i64 R) := (blk_cell BK5.out 1).trans rfl
      have y2 : World.cell? _ ⟨g5, 2, none⟩ = some (.int .i64 V) := (blk_cell BK5.out 2).trans rfl
      have y3 : World.cell? _ ⟨g5, 3, none⟩ = some (.slice A3 n3 c3) := (blk_cell BK5.out 3).trans rfl
      have z0 : World.cell? _ ⟨g9, 0, none⟩ = some (.int .i64 x.f0) := (blk_cell BK9.out 0).trans rfl
      have z1 : World.cell? _ ⟨g9, 1, none⟩ = some (.int .i64 x.f1) := (blk_cell BK9.out 1).trans rfl
      have z2 : World.cell? _ ⟨g9, 2, none⟩ = some (.int .i64 x.f2) := (blk_cell BK9.out 2).trans rfl
      have z3 : World.cell? _ ⟨g9, 3, none⟩ = some (.int .i64 x.f3) := (blk_cell BK9.out 3).trans rfl
      have z4 : World.cell? _ ⟨g9, 4, none⟩ = some (.int .i64 x.f4) := (blk_cell BK9.out 4).trans rfl
      have z5 : World.cell? _ ⟨g9, 5, none⟩ = some (.slice A5 x.f5.length c5) := (blk_cell BK9.out 5).trans rfl
      have z6 : World.cell? _ ⟨g9, 6, none⟩ = some (.slice A6 x.f6.length c6) := (blk_cell BK9.out 6).trans rfl
      go_wp2_with fail
      refine start_ (n := 9) (S := fun w' => w'.cell? ⟨g5, 0, none⟩ = some (.int .i64 P) ∧ w'.cell? ⟨g5, 1, none⟩ = some (.int .i64 R) ∧ w'.cell? ⟨g5, 2, none⟩ = some (.int .i64 V) ∧ w'.cell? ⟨g5, 3, none⟩ = some (.slice A3 n3 c3) ∧ w'.cell? ⟨g9, 0, none⟩ = some (.int .i64 x.f0) ∧ w'.cell? ⟨g9, 1, none⟩ = some (.int .i64 x.f1) ∧ w'.cell? ⟨g9, 2, none⟩ = some (.int .i64 x.f2) ∧ w'.cell? ⟨g9, 3, none⟩ = some (.int .i64 x.f3) ∧ w'.cell? ⟨g9, 4, none⟩ = some (.int .i64 x.f4) ∧ w'.cell? ⟨g9, 5, none⟩ = some (.slice A5 x.f5.length c5) ∧ w'.cell? ⟨g9, 6, none⟩ = some (.slice A6 x.f6.length c6)) (ds := [8]) #[false, false, false, false, false, false, false, false, false] (by kernel_rfl) rfl rfl ⟨y0, y1, y2, y3, z0, z1, z2, z3, z4, z5, z6⟩ (fun hHeld => ?_)
      refine with_tabW TAB_53.tab22 TAB_53.bits22 (fun HT_ HW_ => ?_)
      refine pq 0 (some 87) HT_ rfl rfl (fun _ _ _ h => h) ?_
      refine pq 1 (some 88) HT_ rfl rfl (fun _ _ _ h => h) ?_
      refine pq 2 (some 89) HT_ rfl rfl (fun _ _ _ h => h) ?_
      refine pt 3 (some 90) (v := ?_) (a' := ?_) rfl rfl (take_ofW HT_.out HW_.out (by kernel_rfl)) (fun _ _ _ h => h) (Or.inl ⟨by rfl, ?_⟩) hHeld ?_ ?_
      rotate_left; (rintro w' ⟨s0, s1, s2, s3, s4, s5, s6, s7, s8, s9, s10⟩; go_simp; with_reducible rfl); rotate_left; (simp only [Act.put, pn, i64_w, i32_w]; rfl)
      refine pt 4 (some 91) (v := ?_) (a' := ?_) rfl rfl (take_ofW HT_.out HW_.out (by kernel_rfl)) (fun _ _ _ h => h) (Or.inl ⟨by rfl, ?_⟩) hHeld ?_ ?_
      rotate_left; (rintro w' ⟨s0, s1, s2, s3, s4, s5, s6, s7, s8, s9, s10⟩; go_simp; with_reducible rfl); rotate_left; (simp only [Act.put, pn, i64_w, i32_w]; rfl)
      refine pt 5 (some 92) (v := ?_) (a' := ?_) rfl rfl (take_ofW HT_.out HW_.out (by kernel_rfl)) (fun _ _ _ h => h) (Or.inl ⟨by rfl, ?_⟩) hHeld ?_ ?_
      rotate_left; (rintro w' ⟨s0, s1, s2, s3, s4, s5, s6, s7, s8, s9, s10⟩; go_simp; with_reducible rfl); rotate_left; (simp only [Act.put, pn, i64_w, i32_w]; rfl)
      refine one_ (i := 6) (N := some 93) #[true, true, true, true, true, true, true, false, false] rfl rfl (one_of HT_.out (by kernel_rfl)) (by decide) (fun K hK => ?_)
      refine goes_ Tryd.func89 (by kernel_rfl) rfl #[.pointer (some ⟨gr, 0, none⟩), .int .u8 66, .agg #[.int .i64 P, .int .i64 R, .int .i64 V, .slice A3 n3 c3], .agg #[.int .i64 x.f0, .int .i64 x.f1, .int .i64 x.f2, .int .i64 x.f3, .int .i64 x.f4, .slice A5 x.f5.length c5, .slice A6 x.f6.length c6]] (by rfl) rfl rfl (by simp only [List.map_toArray, List.map_cons, List.map_nil]; rfl) ?_
      with_reducible refine (rdlist_any 66 P R V A3 n3 c3 x.f0 x.f1 x.f2 x.f3 x.f4 A5 x.f5.length c5 A6 x.f6.length c6 (wantE fs R x .rets) bs p HH.out.drew.at2 Hn.out HBs.out HBy.out HP.out (WantW.below (want_w (HeadsC.rw HH.out HF0.out HAd.out) HMay.out (by simp) (by decide)) (below_drew (Below.refl _ _))) HAd.out Hm.out).mono ?_
      rintro e_ wv hV
      obtain ⟨v1, l, e', a', f', o', rfl, hRl, hR, hP⟩ := list_part (G := G) (fs := fs) (R := R) (M := M) (x := x) (pk := .rets) (.inr ⟨rfl, rfl⟩) Hn.out HBy.out hV
      obtain ⟨Al, cl, rfl⟩ := Kd.R_slice hRl
      refine ⟨_, rfl, ?_⟩
      have HRl : Aside0 (kI.R 3 wv w.heap.size (fun k => w.heap.size ≤ k) (.slice Al l.length cl) l) := ⟨Kd.R_mono (Kd.R_lower hRl HH.out.sz) (fun k hk => Nat.le_trans HH.out.sz hk)⟩
      replace hR := HH.out.at2.drew.trans hR
      have HPk := Aside0.mk hP
      clear hV hP hRl
      have HX2 := Aside0.mk (XR.rw HX.out hR HGr.out ⟨NE9.out.1, NE9.out.2.1⟩)
      replace BK5 := Aside0.mk (HH.out.at2.gb BK5.out hR NE5.out.1 NE5.out.2.1)
      replace BK8 := Aside0.mk (HH.out.at2.gb BK8.out hR NE8.out.1 NE8.out.2.1)
      replace BK9 := Aside0.mk (HH.out.at2.gb BK9.out hR NE9.out.1 NE9.out.2.1)
      replace HH := Aside0.mk (HH.out.trans hR)
      clear hR
      refine hK.out _ _ ⟨(blk_cell BK5.out 0).trans rfl, (blk_cell BK5.out 1).trans rfl, (blk_cell BK5.out 2).trans rfl, (blk_cell BK5.out 3).trans rfl, (blk_cell BK9.out 0).trans rfl, (blk_cell BK9.out 1).trans rfl, (blk_cell BK9.out 2).trans rfl, (blk_cell BK9.out 3).trans rfl, (blk_cell BK9.out 4).trans rfl, (blk_cell BK9.out 5).trans rfl, (blk_cell BK9.out 6).trans rfl⟩ (fun hHeld => ?_)
      clear hK K
      refine norm_ (a' := ?_) ?_ ?_
      rotate_left
      ·show Act.put _ (some 93) _ = _
       simp only [Act.put, pn, i64_w, i32_w]
       rfl
      refine pq 7 (some 94) HT_ rfl rfl (fun _ _ _ h => h) ?_
      refine last_ (i := 8) (N := none) #[true, true, true, true, true, true, true, true, true] rfl rfl (one_of HT_.out (by kernel_rfl)) (by decide) (fun K hK => ?_)
      have hfz := blk_frozen BK9.out 6
      refine skip_ (w1 := ?_) (by rfl) rfl ?_ ?_
      rotate_left
      ·go_simp
       rfl
      clear hfz
      refine hK.out _ _ ?_
      clear hK K
      refine done_ (done_of HT_.out (by kernel_rfl)) ?_
      clear HT_ HW_ hHeld y0 y1 y2 y3 z0 z1 z2 z3 z4 z5 z6
      have HHv := Aside0.mk (HH.out.other g9 6 (.slice Al l.length cl) NE9.out.1 NE9.out.2.1 NE9.out.2.2.1 NE9.out.2.2.2)
      have B5v := Aside0.mk ((Below.heap_setCell wv ⟨g9, 6, none⟩ (.slice Al l.length cl) g5 NE9b.out.1).trans BK5.out)
      have B8v := Aside0.mk ((Below.heap_setCell wv ⟨g9, 6, none⟩ (.slice Al l.length cl) g8 NE9b.out.2).trans BK8.out)
      have HXv := Aside0.mk (XR.set6 HX2.out HRl.out HEm.out)
      have HX0v : Aside0 ((setL x 6 l).f0 = v) := ⟨(setL_0 _ _ _).trans HX0.out⟩
      clear HH HX HX2 BK5 BK8 BK9 HX5 HX6 HRl
      obtain ⟨wy, hwy⟩ : ∃ wy, wy = World.setCell wv ⟨g9, 6, none⟩ (.slice Al l.length cl) := ⟨_, rfl⟩
      rw [← hwy] at HHv B5v B8v HXv ⊢
      clear hwy
      go_wp2_with fail
      obtain ⟨E0, E1⟩ := HSt.out _ _ _ _ HPk.out
      have E0 := Aside0.mk E0
      have E1 := Aside0.mk E1
      go_roundw
      case rel => exact ⟨j + 1, _, _, _, _, _, Nat.succ_le_of_lt HLt.out, by go_num, HHv, HXv, B5v, B8v, HX0v, E0, E1⟩
      case measure => rw [hwp]; exact Nat.sub_lt_sub_left (show j < np from HLt.out) (show j < j + 1 from Nat.lt_succ_self j)
     case vals =>
      have hx8 : ∀ h : j < s.size, ((s[j]'h).toNat : Int) = 86 := hx7
      clear hx7
      have HEm : Aside0 (x.f5 = []) := ⟨HEmp.out.1 (.inr rfl)⟩
      have y0 : World.cell? _ ⟨g5, 0, none⟩ = some (.int .i64 P) := (blk_cell BK5.out 0).trans rfl
      have y1 : World.cell? _ ⟨g5, 1, none⟩ = some (.int .i64 R) := (blk_cell BK5.out 1).trans rfl
      have y2 : World.cell? _ ⟨g5, 2, none⟩ = some (.int .i64 V) := (blk_cell BK5.out 2).trans rfl
      have y3 : World.cell? _ ⟨g5, 3, none⟩ = some (.slice A3 n3 c3) := (blk_cell BK5.out 3).trans rfl
      have z0 : World.cell? _ ⟨g9, 0, none⟩ = some (.int .i64 x.f0) := (blk_cell BK9.out 0).trans rfl
      have z1 : World.cell? _ ⟨g9, 1, none⟩ = some (.int .i64 x.f1) := (blk_cell BK9.out 1).trans rfl
      have z2 : World.cell? _ ⟨g9, 2, none⟩ = some (.int .i64 x.f2) := (blk_cell BK9.out 2).trans rfl
      have z3 : World.cell? _ ⟨g9, 3, none⟩ = some (.int .i64 x.f3) := (blk_cell BK9.out 3).trans rfl
      have z4 : World.cell? _ ⟨g9, 4, none⟩ = some (.int .i64 x.f4) := (blk_cell BK9.out 4).trans rfl
      have z5 : World.cell? _ ⟨g9, 5, none⟩ = some (.slice A5 x.f5.length c5) := (blk_cell BK9.out 5).trans rfl
      have z6 : World.cell? _ ⟨g9, 6, none⟩ = some (.slice A6 x.f6.length c6) := (blk_cell BK9.out 6).trans rfl
      go_wp2_with fail
      refine start_ (n := 9) (S := fun w' => w'.cell? ⟨g5, 0, none⟩ = some (.int .i64 P) ∧ w'.cell? ⟨g5, 1, none⟩ = some (.int .i64 R) ∧ w'.cell? ⟨g5, 2, none⟩ = some (.int .i64 V) ∧ w'.cell? ⟨g5, 3, none⟩ = some (.slice A3 n3 c3) ∧ w'.cell? ⟨g9, 0, none⟩ = some (.int .i64 x.f0) ∧ w'.cell? ⟨g9, 1, none⟩ = some (.int .i64 x.f1) ∧ w'.cell? ⟨g9, 2, none⟩ = some (.int .i64 x.f2) ∧ w'.cell? ⟨g9, 3, none⟩ = some (.int .i64 x.f3) ∧ w'.cell? ⟨g9, 4, none⟩ = some (.int .i64 x.f4) ∧ w'.cell? ⟨g9, 5, none⟩ = some (.slice A5 x.f5.length c5) ∧ w'.cell? ⟨g9, 6, none⟩ = some (.slice A6 x.f6.length c6)) (ds := [8]) #[false, false, false, false, false, false, false, false, false] (by kernel_rfl) rfl rfl ⟨y0, y1, y2, y3, z0, z1, z2, z3, z4, z5, z6⟩ (fun hHeld => ?_)
      refine with_tabW TAB_53.tab20 TAB_53.bits20 (fun HT_ HW_ => ?_)
      refine pq 0 (some 77) HT_ rfl rfl (fun _ _ _ h => h) ?_
      refine pq 1 (some 78) HT_ rfl rfl (fun _ _ _ h => h) ?_
      refine pq 2 (some 79) HT_ rfl rfl (fun _ _ _ h => h) ?_
      refine pt 3 (some 80) (v := ?_) (a' := ?_) rfl rfl (take_ofW HT_.out HW_.out (by kernel_rfl)) (fun _ _ _ h => h) (Or.inl ⟨by rfl, ?_⟩) hHeld ?_ ?_
      rotate_left; (rintro w' ⟨s0, s1, s2, s3, s4, s5, s6, s7, s8, s9, s10⟩; go_simp; with_reducible rfl); rotate_left; (simp only [Act.put, pn, i64_w, i32_w]; rfl)
      refine pt 4 (some 81) (v := ?_) (a' := ?_) rfl rfl (take_ofW HT_.out HW_.out (by kernel_rfl)) (fun _ _ _ h => h) (Or.inl ⟨by rfl, ?_⟩) hHeld ?_ ?_
      rotate_left; (rintro w' ⟨s0, s1, s2, s3, s4, s5, s6, s7, s8, s9, s10⟩; go_simp; with_reducible rfl); rotate_left; (simp only [Act.put, pn, i64_w, i32_w]; rfl)
      refine pt 5 (some 82) (v := ?_) (a' := ?_) rfl rfl (take_ofW HT_.out HW_.out (by kernel_rfl)) (fun _ _ _ h => h) (Or.inl ⟨by rfl, ?_⟩) hHeld ?_ ?_
      rotate_left; (rintro w' ⟨s0, s1, s2, s3, s4, s5, s6, s7, s8, s9, s10⟩; go_simp; with_reducible rfl); rotate_left; (simp only [Act.put, pn, i64_w, i32_w]; rfl)
      refine one_ (i := 6) (N := some 83) #[true, true, true, true, true, true, true, false, false] rfl rfl (one_of HT_.out (by kernel_rfl)) (by decide) (fun K hK => ?_)
      refine goes_ Tryd.func89 (by kernel_rfl) rfl #[.pointer (some ⟨gr, 0, none⟩), .int .u8 86, .agg #[.int .i64 P, .int .i64 R, .int .i64 V, .slice A3 n3 c3], .agg #[.int .i64 x.f0, .int .i64 x.f1, .int .i64 x.f2, .int .i64 x.f3, .int .i64 x.f4, .slice A5 x.f5.length c5, .slice A6 x.f6.length c6]] (by rfl) rfl rfl (by simp only [List.map_toArray, List.map_cons, List.map_nil]; rfl) ?_
      with_reducible refine (rdlist_any 86 P R V A3 n3 c3 x.f0 x.f1 x.f2 x.f3 x.f4 A5 x.f5.length c5 A6 x.f6.length c6 (wantE fs R x .vals) bs p HH.out.drew.at2 Hn.out HBs.out HBy.out HP.out (WantW.below (want_w (HeadsC.rw HH.out HF0.out HAd.out) HMay.out (by simp) (by decide)) (below_drew (Below.refl _ _))) HAd.out Hm.out).mono ?_
      rintro e_ wv hV
      obtain ⟨v1, l, e', a', f', o', rfl, hRl, hR, hP⟩ := list_part (G := G) (fs := fs) (R := R) (M := M) (x := x) (pk := .vals) (.inl ⟨.inr rfl, rfl⟩) Hn.out HBy.out hV
      obtain ⟨Al, cl, rfl⟩ := Kd.R_slice hRl
      refine ⟨_, rfl, ?_⟩
      have HRl : Aside0 (kI.R 3 wv w.heap.size (fun k => w.heap.size ≤ k) (.slice Al l.length cl) l) := ⟨Kd.R_mono (Kd.R_lower hRl HH.out.sz) (fun k hk => Nat.le_trans HH.out.sz hk)⟩
      replace hR := HH.out.at2.drew.trans hR
      have HPk := Aside0.mk hP
      clear hV hP hRl
      have HX2 := Aside0.mk (XR.rw HX.out hR HGr.out ⟨NE9.out.1, NE9.out.2.1⟩)
      replace BK5 := Aside0.mk (HH.out.at2.gb BK5.out hR NE5.out.1 NE5.out.2.1)
      replace BK8 := Aside0.mk (HH.out.at2.gb BK8.out hR NE8.out.1 NE8.out.2.1)
      replace BK9 := Aside0.mk (HH.out.at2.gb BK9.out hR NE9.out.1 NE9.out.2.1)
      replace HH := Aside0.mk (HH.out.trans hR)
      clear hR
      refine hK.out _ _ ⟨(blk_cell BK5.out 0).trans rfl, (blk_cell BK5.out 1).trans rfl, (blk_cell BK5.out 2).trans rfl, (blk_cell BK5.out 3).trans rfl, (blk_cell BK9.out 0).trans rfl, (blk_cell BK9.out 1).trans rfl, (blk_cell BK9.out 2).trans rfl, (blk_cell BK9.out 3).trans rfl, (blk_cell BK9.out 4).trans rfl, (blk_cell BK9.out 5).trans rfl, (blk_cell BK9.out 6).trans rfl⟩ (fun hHeld => ?_)
      clear hK K
      refine norm_ (a' := ?_) ?_ ?_
      rotate_left
      ·show Act.put _ (some 83) _ = _
       simp only [Act.put, pn, i64_w, i32_w]
       rfl
      refine pq 7 (some 84) HT_ rfl rfl (fun _ _ _ h => h) ?_
      refine last_ (i := 8) (N := none) #[true, true, true, true, true, true, true, true, true] rfl rfl (one_of HT_.out (by kernel_rfl)) (by decide) (fun K hK => ?_)
      have hfz := blk_frozen BK9.out 5
      refine skip_ (w1 := ?_) (by rfl) rfl ?_ ?_
      rotate_left
      ·go_simp
       rfl
      clear hfz
      refine hK.out _ _ ?_
      clear hK K
      refine done_ (done_of HT_.out (by kernel_rfl)) ?_
      clear HT_ HW_ hHeld y0 y1 y2 y3 z0 z1 z2 z3 z4 z5 z6
      have HHv := Aside0.mk (HH.out.other g9 5 (.slice Al l.length cl) NE9.out.1 NE9.out.2.1 NE9.out.2.2.1 NE9.out.2.2.2)
      have B5v := Aside0.mk ((Below.heap_setCell wv ⟨g9, 5, none⟩ (.slice Al l.length cl) g5 NE9b.out.1).trans BK5.out)
      have B8v := Aside0.mk ((Below.heap_setCell wv ⟨g9, 5, none⟩ (.slice Al l.length cl) g8 NE9b.out.2).trans BK8.out)
      have HXv := Aside0.mk (XR.set5 HX2.out HRl.out HEm.out)
      have HX0v : Aside0 ((setL x 5 l).f0 = v) := ⟨(setL_0 _ _ _).trans HX0.out⟩
      clear HH HX HX2 BK5 BK8 BK9 HX5 HX6 HRl
      obtain ⟨wy, hwy⟩ : ∃ wy, wy = World.setCell wv ⟨g9, 5, none⟩ (.slice Al l.length cl) := ⟨_, rfl⟩
      rw [← hwy] at HHv B5v B8v HXv ⊢
      clear hwy
      go_wp2_with fail
      obtain ⟨E0, E1⟩ := HSt.out _ _ _ _ HPk.out
      have E0 := Aside0.mk E0
      have E1 := Aside0.mk E1
      go_roundw
      case rel => exact ⟨j + 1, _, _, _, _, _, Nat.succ_le_of_lt HLt.out, by go_num, HHv, HXv, B5v, B8v, HX0v, E0, E1⟩
      case measure => rw [hwp]; exact Nat.sub_lt_sub_left (show j < np from HLt.out) (show j < j + 1 from Nat.lt_succ_self j)
   ·rw [beq_eq_false_iff_ne.2 he] at HO
    have qs : (j : Int) < (s.size : Int) := by rw [HSz.out]; exact Int.ofNat_lt.2 hlt
    go_wp2_with fail
    refine HO.out.mono ?_
    rintro r w5 ⟨rfl, rfl⟩
    have z0 : World.cell? _ ⟨g9, 0, none⟩ = some (.int .i64 x.f0) := (blk_cell BK9.out 0).trans rfl
    have z1 : World.cell? _ ⟨g9, 1, none⟩ = some (.int .i64 x.f1) := (blk_cell BK9.out 1).trans rfl
    have z2 : World.cell? _ ⟨g9, 2, none⟩ = some (.int .i64 x.f2) := (blk_cell BK9.out 2).trans rfl
    have z3 : World.cell? _ ⟨g9, 3, none⟩ = some (.int .i64 x.f3) := (blk_cell BK9.out 3).trans rfl
    have z4 : World.cell? _ ⟨g9, 4, none⟩ = some (.int .i64 x.f4) := (blk_cell BK9.out 4).trans rfl
    have z5 : World.cell? _ ⟨g9, 5, none⟩ = some (.slice A5 x.f5.length c5) := (blk_cell BK9.out 5).trans rfl
    have z6 : World.cell? _ ⟨g9, 6, none⟩ = some (.slice A6 x.f6.length c6) := (blk_cell BK9.out 6).trans rfl
    have k0 : World.cell? _ ⟨g8, 0, none⟩ = some (.int .i64 0) := (blk_cell BK8.out 0).trans rfl
    have k1 : World.cell? _ ⟨g8, 1, none⟩ = some (.int .i64 0) := (blk_cell BK8.out 1).trans rfl
    have k2 : World.cell? _ ⟨g8, 2, none⟩ = some (.int .i64 0) := (blk_cell BK8.out 2).trans rfl
    have k3 : World.cell? _ ⟨g8, 3, none⟩ = some (.int .i64 0) := (blk_cell BK8.out 3).trans rfl
    have k4 : World.cell? _ ⟨g8, 4, none⟩ = some (.int .i64 0) := (blk_cell BK8.out 4).trans rfl
    have k5 : World.cell? _ ⟨g8, 5, none⟩ = some (.slice none 0 0) := (blk_cell BK8.out 5).trans rfl
    have k6 : World.cell? _ ⟨g8, 6, none⟩ = some (.slice none 0 0) := (blk_cell BK8.out 6).trans rfl
    have q0 := blk_frozen BK8.out 0
    have q1 := blk_frozen BK8.out 1
    have q2 := blk_frozen BK8.out 2
    have q3 := blk_frozen BK8.out 3
    have q4 := blk_frozen BK8.out 4
    have q5 := blk_frozen BK8.out 5
    have q6 := blk_frozen BK8.out 6
    go_wp2_with fail
    have hE := HH.out.set7 g8 (.int .i64 x.f0) (.int .i64 x.f1) (.int .i64 x.f2) (.int .i64 x.f3) (.int .i64 x.f4) (.slice A5 x.f5.length c5) (.slice A6 x.f6.length c6) NE8.out.1 NE8.out.2.1 NE8.out.2.2.1 NE8.out.2.2.2
    have hK := set7_at BK8.out (.int .i64 x.f0) (.int .i64 x.f1) (.int .i64 x.f2) (.int .i64 x.f3) (.int .i64 x.f4) (.slice A5 x.f5.length c5) (.slice A6 x.f6.length c6)
    try simp only [Exit.inBlock, Exit.then]
    refine bodyPost_ret (results_cell_row rfl _ _ g8 50 #[.int .i64 x.f0, .int .i64 x.f1, .int .i64 x.f2, .int .i64 x.f3, .int .i64 x.f4, .slice A5 x.f5.length c5, .slice A6 x.f6.length c6] (0, 0) _ rfl hK Tryd.underlying50 rfl (by kernel_rfl)) rfl ?_
    refine ⟨x, _, _, e, a, f, o, L1, rfl, Kd.R_set7 HX5.out BK8.out _ _ _ _ _ _ _, Kd.R_set7 HX6.out BK8.out _ _ _ _ _ _ _, HO0.out.trans hE, ?_, HE1.out⟩
    exact fun h => absurd h he
  ·have qn : ¬ j < s.size := by rw [HSz.out]; exact hlt
   have qn2 : ¬ (j : Int) < (s.size : Int) := fun h => qn (Int.ofNat_lt.1 h)
   obtain rfl : np = j := by omega
   have HE0 := HE0
   have QN := Aside0.mk qn
   have z0 : World.cell? _ ⟨g9, 0, none⟩ = some (.int .i64 x.f0) := (blk_cell BK9.out 0).trans rfl
   have z1 : World.cell? _ ⟨g9, 1, none⟩ = some (.int .i64 x.f1) := (blk_cell BK9.out 1).trans rfl
   have z2 : World.cell? _ ⟨g9, 2, none⟩ = some (.int .i64 x.f2) := (blk_cell BK9.out 2).trans rfl
   have z3 : World.cell? _ ⟨g9, 3, none⟩ = some (.int .i64 x.f3) := (blk_cell BK9.out 3).trans rfl
   have z4 : World.cell? _ ⟨g9, 4, none⟩ = some (.int .i64 x.f4) := (blk_cell BK9.out 4).trans rfl
   have z5 : World.cell? _ ⟨g9, 5, none⟩ = some (.slice A5 x.f5.length c5) := (blk_cell BK9.out 5).trans rfl
   have z6 : World.cell? _ ⟨g9, 6, none⟩ = some (.slice A6 x.f6.length c6) := (blk_cell BK9.out 6).trans rfl
   have k0 : World.cell? _ ⟨g8, 0, none⟩ = some (.int .i64 0) := (blk_cell BK8.out 0).trans rfl
   have k1 : World.cell? _ ⟨g8, 1, none⟩ = some (.int .i64 0) := (blk_cell BK8.out 1).trans rfl
   have k2 : World.cell? _ ⟨g8, 2, none⟩ = some (.int .i64 0) := (blk_cell BK8.out 2).trans rfl
   have k3 : World.cell? _ ⟨g8, 3, none⟩ = some (.int .i64 0) := (blk_cell BK8.out 3).trans rfl
   have k4 : World.cell? _ ⟨g8, 4, none⟩ = some (.int .i64 0) := (blk_cell BK8.out 4).trans rfl
   have k5 : World.cell? _ ⟨g8, 5, none⟩ = some (.slice none 0 0) := (blk_cell BK8.out 5).trans rfl
   have k6 : World.cell? _ ⟨g8, 6, none⟩ = some (.slice none 0 0) := (blk_cell BK8.out 6).trans rfl
   have q0 := blk_frozen BK8.out 0
   have q1 := blk_frozen BK8.out 1
   have q2 := blk_frozen BK8.out 2
   have q3 := blk_frozen BK8.out 3
   have q4 := blk_frozen BK8.out 4
   have q5 := blk_frozen BK8.out 5
   have q6 := blk_frozen BK8.out 6
   go_wp2_with fail
   have hE := HH.out.set7 g8 (.int .i64 x.f0) (.int .i64 x.f1) (.int .i64 x.f2) (.int .i64 x.f3) (.int .i64 x.f4) (.slice A5 x.f5.length c5) (.slice A6 x.f6.length c6) NE8.out.1 NE8.out.2.1 NE8.out.2.2.1 NE8.out.2.2.2
   have hK := set7_at BK8.out (.int .i64 x.f0) (.int .i64 x.f1) (.int .i64 x.f2) (.int .i64 x.f3) (.int .i64 x.f4) (.slice A5 x.f5.length c5) (.slice A6 x.f6.length c6)
   try simp only [Exit.inBlock, Exit.then]
   refine bodyPost_ret (results_cell_row rfl _ _ g8 50 #[.int .i64 x.f0, .int .i64 x.f1, .int .i64 x.f2, .int .i64 x.f3, .int .i64 x.f4, .slice A5 x.f5.length c5, .slice A6 x.f6.length c6] (0, 0) _ rfl hK Tryd.underlying50 rfl (by kernel_rfl)) rfl ?_
   refine ⟨x, _, _, e, a, f, o, L1, rfl, Kd.R_set7 HX5.out BK8.out _ _ _ _ _ _ _, Kd.R_set7 HX6.out BK8.out _ _ _ _ _ _ _, HO0.out.trans hE, ?_, HE1.out⟩
   exact fun h => by obtain ⟨h0, p, h1, h2, h3, h4⟩ := HE0.out h; exact ⟨p, h1, h2, h3, HFin.out x p h0 h4⟩
theorem rdinstr_any (P R V : Int) (A3 : Option Addr) (n3 c3 : Nat) (M : Int) (last : Bool) (bs : List Int) (q : Nat) (h : Rw Wz w0 w gr g G A fs.length c locs 0 Ab nb cb (q : Int) from_ off) (hn : nb = bs.length) (hB : kB.C Wz Ab nb bs) (hby : ∀ x ∈ bs, 0 ≤ x ∧ x ≤ 255) (hq : q ≤ nb) (hz : Wz.heap.size ≤ w.heap.size)
  (hl0 : 0 ≤ locs) (hl1 : locs < 1048576) (hF : HeadsC w A fs) (hA : ∀ ad, A = some ad → ad.block ≠ gr ∧ ad.block ≠ g) (hm : fs.length ≤ 9223372036854775807) :
  Calls Tryd.prog 53 #[.pointer (some ⟨gr, 0, none⟩), .agg #[.int .i64 P, .int .i64 R, .int .i64 V, .slice A3 n3 c3], .int .i64 M, .bool last] w fun r w' => RdI Wz w0 w gr g G A fs.length c Ab nb cb off (instrR G fs R V M bs last q locs) r w' := by
 by_cases h1 : q + 1 ≤ nb
 ·exact rdinstr_ok P R V A3 n3 c3 M last bs q h hn hB hby hq hz h1 hl0 hl1 hF hA hm
 ·exact rdinstr_short P R V A3 n3 c3 M last bs q h hn hB hby hq hz h1 hl0 hl1 hF hA hm
end
theorem results_prog {fn : Func} {p u v : Tmp} (h : fn.results = #[.cell p 24, .tmp u, .tmp v]) (tmps : Array Value) (w : World) (b : Nat) (t : TypeId) (cs : Array Value) (fr : Nat × Nat)
  (hp : tmps.getD p undef = .pointer (some ⟨b, 0, none⟩)) (hg : w.heap[b]? = some (.cells cs t fr)) (hi : (Tryd.prog.info? 24).map (·.size) = some cs.size) :
  (results fn tmps).run Tryd.prog w = .ok (.tuple #[.agg cs, tmps.getD u undef, tmps.getD v undef]) w := by
 have hp' : tmps[p]?.getD undef = .pointer (some ⟨b, 0, none⟩) := by simpa using hp
 have hl := run_loadVar_row w b t 24 cs fr _ hg Tryd.underlying24 rfl hi
 simp only [results, h]
 simp [hp', asAddr, hl]
section
variable {Wz w0 w w' : World} {gr g : Nat} {G : Int} {A : Option Addr} {m c : Nat} {locs err : Int} {Ab : Option Addr} {nb cb : Nat} {at_ from_ off : Int} {bs : List Int}
theorem Rw.setw (h : Rw Wz w0 w gr g G A m c locs err Ab nb cb at_ from_ off) (j : Nat) (v : Value) {G' : Int} {A' : Option Addr} {m' c' : Nat} {locs' err' : Int} (he : (#[.int .i64 G, .slice A m c, .int .i64 locs, .int .i64 err] : Array Value).setIfInBounds j v = #[.int .i64 G', .slice A' m' c', .int .i64 locs', .int .i64 err']) :
  Rw Wz w0 (w.setCell ⟨g, j, none⟩ v) gr g G' A' m' c' locs' err' Ab nb cb at_ from_ off := by
 have hk : ∀ i, i ≠ g → (w.setCell ⟨g, j, none⟩ v).heap[i]? = w.heap[i]? := fun i hi => Below.heap_setCell w ⟨g, j, none⟩ _ i hi
 exact ⟨(hk gr h.ne).trans h.rb, by rw [← he]; exact blk_set h.wb j v, below_set h.bel h.gw, Nat.le_trans h.sz (by simp [World.setCell]), fun i hi h1 h2 => (hk i h2).trans (h.kp i hi h1 h2), h.gw, h.gz, h.ne⟩
theorem Rw.setG (h : Rw Wz w0 w gr g G A m c locs err Ab nb cb at_ from_ off) (G' : Int) : Rw Wz w0 (w.setCell ⟨g, 0, none⟩ (.int .i64 G')) gr g G' A m c locs err Ab nb cb at_ from_ off := h.setw 0 _ rfl
theorem Rw.setA (h : Rw Wz w0 w gr g G A m c locs err Ab nb cb at_ from_ off) (A' : Option Addr) (m' c' : Nat) : Rw Wz w0 (w.setCell ⟨g, 1, none⟩ (.slice A' m' c')) gr g G A' m' c' locs err Ab nb cb at_ from_ off := h.setw 1 _ rfl
theorem Rw.sete (h : Rw Wz w0 w gr g G A m c locs err Ab nb cb at_ from_ off) (e : Int) : Rw Wz w0 (w.setCell ⟨g, 3, none⟩ (.int .i64 e)) gr g G A m c locs e Ab nb cb at_ from_ off := h.setw 3 _ rfl
theorem Rw.g0 (h : Rw Wz w0 w gr g G A m c locs err Ab nb cb at_ from_ off) : w.cell? ⟨g, 0, none⟩ = some (.int .i64 G) := (blk_cell h.wb 0).trans rfl
theorem Rw.g1 (h : Rw Wz w0 w gr g G A m c locs err Ab nb cb at_ from_ off) : w.cell? ⟨g, 1, none⟩ = some (.slice A m c) := (blk_cell h.wb 1).trans rfl
theorem CodeQ.rw {w1 w2 : World} {base q : Nat} {hs : List HV} {cs : List (List S50)} {v : Value} (h : CodeQ w1 base hs cs q v) (k : Rw Wz w1 w2 gr g G A m c locs err Ab nb cb at_ from_ off) (hg : gr < base ∧ g < base) : CodeQ w2 base hs cs q v :=
 fun i hi => Kd.R_rw (h i hi) k (fun k hk => by have := hk.1; omega)
theorem rthing_any (k : Nat) (hk : 1 ≤ k ∧ k ≤ 8) (p : Nat) (h : Rw Wz w0 w gr g G A m c locs err Ab nb cb at_ from_ off) (hn : nb = bs.length) (hB : kB.C Wz Ab nb bs) (hby : ∀ x ∈ bs, 0 ≤ x ∧ x ≤ 255) (hp : err = 0 → at_ = (p : Int) ∧ p ≤ nb) :
  Calls Tryd.prog 49 #[.pointer (some ⟨gr, 0, none⟩), .int .i64 k] w fun r w' => ∃ v e' a' f' o', r = .returned (.int .i64 v) ∧ Rw Wz w0 w' gr g G A m c locs e' Ab nb cb a' f' o' ∧ (err ≠ 0 → v = 0 ∧ e' = err ∧ o' = off) ∧
   (err = 0 → p + k ≤ nb → v = wrap64 (upN bs p k k) ∧ e' = 0 ∧ a' = ((p + k : Nat) : Int) ∧ f' = (p : Int) ∧ o' = off) ∧ (err = 0 → ¬ p + k ≤ nb → v = 0 ∧ e' = 11 ∧ o' = nb) := by
 by_cases he : err = 0
 ·obtain ⟨h1, h2⟩ := hp he
  subst he
  subst h1
  by_cases hl : p + k ≤ nb
  ·refine (rthing_ok k hk bs p h hn hB hby hl).mono ?_
   rintro r w' ⟨rfl, hR⟩
   exact ⟨_, _, _, _, _, rfl, hR, fun h => absurd rfl h, fun _ _ => ⟨rfl, rfl, rfl, rfl, rfl⟩, fun _ h => absurd hl h⟩
  ·refine (rthing_short k (by omega) bs p h hn hB (by omega) h2).mono ?_
   rintro r w' ⟨rfl, hR⟩
   exact ⟨_, _, _, _, _, rfl, hR, fun h => absurd rfl h, fun _ h => absurd h hl, fun _ _ => ⟨rfl, rfl, rfl⟩⟩
 ·refine (rthing_no k he h).mono ?_
  rintro r w' ⟨rfl, hR⟩
  exact ⟨_, _, _, _, _, rfl, hR, fun _ => ⟨rfl, rfl, rfl⟩, fun h => absurd h he, fun h => absurd h he⟩
theorem headE_ne11 (locs P R V n : Int) : headE locs P R V n ≠ 11 := by
 unfold headE
 repeat' split
 all_goals decide
theorem rdhead_any (q : Nat) (h : Rw Wz w0 w gr g G A m c locs 0 Ab nb cb ((9 + 5 * q : Nat) : Int) from_ off) (hn : nb = bs.length) (hB : kB.C Wz Ab nb bs) (hby : ∀ x ∈ bs, 0 ≤ x ∧ x ≤ 255) (hm : nb ≤ 9223372036854775807) (h9 : 9 + 5 * q ≤ nb) (h0 : w0.heap.size ≤ w.heap.size) (hz : Wz.heap.size ≤ w.heap.size) (hl0 : 0 ≤ locs) (hl1 : locs < 1048576) :
  Calls Tryd.prog 52 #[.pointer (some ⟨gr, 0, none⟩)] w fun r w' => ∃ P R V N L' e' a' f' o', r = .returned (.tuple #[.agg #[.int .i64 P, .int .i64 R, .int .i64 V, .slice none 0 0], .int .i64 N]) ∧ Rw Wz w0 w' gr g G A m c L' e' Ab nb cb a' f' o' ∧
   (e' ≠ 0 → headStep bs q locs = .error (e', o')) ∧ (e' = 0 → headStep bs q locs = .ok L' ∧ a' = ((9 + 5 * (q + 1) : Nat) : Int) ∧ o' = off ∧ (⟨P, R, V, .slice none 0 0, rfl⟩ : HV) = hvOf bs (9 + 5 * q) ∧ N = hvN bs (9 + 5 * q)) := by
 have key : headStep bs q locs = if 9 + 5 * q + 5 ≤ bs.length then (if hvE bs (9 + 5 * q) locs = 0 then .ok (locs + (hvOf bs (9 + 5 * q)).V) else .error (hvE bs (9 + 5 * q) locs, ((9 + 5 * q : Nat) : Int))) else .error (11, bs.length) := rfl
 by_cases h5 : 9 + 5 * q + 5 ≤ nb
 ·refine (rdhead_long bs (9 + 5 * q) h hn hB hby hm h5 h0 hz hl0 (by omega)).mono ?_
  rintro r w' ⟨hR, _⟩
  obtain ⟨hr, f', hW⟩ := hR h5
  rw [if_pos (show 9 + 5 * q + 5 ≤ bs.length by omega)] at key
  have e11 : hvE bs (9 + 5 * q) locs ≠ 11 := headE_ne11 _ _ _ _ _
  refine ⟨_, _, _, _, _, _, _, _, _, hr, hW, fun he => ?_, fun he => ?_⟩
  ·rw [if_neg he] at key
   rw [key]
   unfold toldO
   rw [if_pos ⟨rfl, he, e11⟩]
  ·rw [if_pos he] at key
   refine ⟨?_, by omega, ?_, rfl, rfl⟩
   ·rw [key, (head_ref _ _ _ _ _).2 he]
   ·unfold toldO
    rw [if_neg (fun h => h.2.1 he)]
 ·refine (rdhead_short bs (9 + 5 * q) h hn hm h9 h5 h0 hz).mono ?_
  rintro r w' ⟨_, hR⟩
  obtain ⟨hr, hW⟩ := hR h5
  rw [if_neg (show ¬ 9 + 5 * q + 5 ≤ bs.length by omega)] at key
  exact ⟨_, _, _, _, _, _, _, _, _, hr, hW, fun _ => by rw [key, hn], fun h => absurd h (by decide)⟩
structure Ok9 (bs : List Int) : Prop where
 mg : bs.take 6 = magicL.take bs.length
 h9 : 9 ≤ bs.length
 gl : globE (bs.getD 6 0) = 0
 fn : funcsE (cntOf bs) = 0
theorem Ok9.dec (h : Ok9 bs) : decR bs = (match runE (headStep bs) 0 (cntOf bs).toNat with
  | .error e => .error e
  | .ok l => match runE (funcStep (bs.getD 6 0) (fsOf (hsOf bs (cntOf bs).toNat)) bs) (9 + 5 * (cntOf bs).toNat, l, []) (cntOf bs).toNat with
   | .error e => .error e
   | .ok s => if s.1 = bs.length then .ok (bs.getD 6 0, withCode (hsOf bs (cntOf bs).toNat) s.2.2) else .error (22, s.1)) := by
 have h9 := h.h9
 unfold decR
 rw [if_pos h.mg, if_pos (by omega), if_pos (by omega), if_pos h.gl, if_pos h9, if_pos h.fn]
 rfl
theorem Ok9.head_bad (h : Ok9 bs) {N : Nat} (hN : (N : Int) = cntOf bs) {er : Int × Int} {q : Nat} (hq : q ≤ N) (hr : runE (headStep bs) 0 q = .error er) : decR bs = .error er := by
 rw [h.dec, ← hN, Int.toNat_natCast, runE_err hr N hq]
theorem Ok9.func_bad (h : Ok9 bs) {N : Nat} (hN : (N : Int) = cntOf bs) {l : Int} (hl : runE (headStep bs) 0 N = .ok l) {er : Int × Int} {q : Nat} (hq : q ≤ N) (hr : runE (funcStep (bs.getD 6 0) (fsOf (hsOf bs N)) bs) (9 + 5 * N, l, []) q = .error er) : decR bs = .error er := by
 rw [h.dec, ← hN, Int.toNat_natCast, hl]
 dsimp only
 rw [runE_err hr N hq]
theorem Ok9.whole (h : Ok9 bs) {N : Nat} (hN : (N : Int) = cntOf bs) {l : Int} (hl : runE (headStep bs) 0 N = .ok l) {s : Nat × Int × List (List S50)} (hr : runE (funcStep (bs.getD 6 0) (fsOf (hsOf bs N)) bs) (9 + 5 * N, l, []) N = .ok s) : decR bs = if s.1 = bs.length then .ok (bs.getD 6 0, withCode (hsOf bs N) s.2.2) else .error (22, s.1) := by
 rw [h.dec, ← hN, Int.toNat_natCast, hl]
 dsimp only
 rw [hr]
theorem func_bad1 {G : Int} {fs : List S46} {q k : Nat} {s : Nat × Int × List (List S50)} {s0 : Nat × Int × List (List S50)} {er : Int × Int} (hs : runE (funcStep G fs bs) s0 q = .ok s) (hk : (k : Int) ≤ hvN bs (9 + 5 * q)) (hc : runE (codeStep G fs (hvOf bs (9 + 5 * q)).R (hvOf bs (9 + 5 * q)).V (hvN bs (9 + 5 * q)) bs) (s.1, s.2.1, []) k = .error er) : runE (funcStep G fs bs) s0 (q + 1) = .error er := by
 rw [runE_next hs]
 unfold funcStep
 rw [runE_err hc _ (by omega)]
theorem magic_st {r : Ending} (hn : nb = bs.length) (h : RdM Wz w0 gr g G A m c locs Ab nb cb from_ 0 bs r w') : ∃ e a f o, r = .returned (.tuple #[]) ∧ Rw Wz w0 w' gr g G A m c locs e Ab nb cb a f o ∧ (e ≠ 0 → decR bs = .error (e, o)) ∧ (e = 0 → (a = ((6 : Nat) : Int) ∧ 6 ≤ nb) ∧ o = 0 ∧ bs.take 6 = magicL.take bs.length) := by
 obtain ⟨hr, h1, h2, h3⟩ := h
 by_cases hm : bs.take 6 = magicL.take bs.length
 ·by_cases h6 : 6 ≤ nb
  ·exact ⟨_, _, _, _, hr, h1 hm h6, fun h => absurd rfl h, fun _ => ⟨⟨rfl, h6⟩, rfl, hm⟩⟩
  ·exact ⟨_, _, _, _, hr, h2 hm h6, fun _ => by unfold decR; rw [if_pos hm, if_neg (by omega), hn], fun h => absurd h (by decide)⟩
 ·exact ⟨_, _, _, _, hr, h3 hm, fun _ => by unfold decR; rw [if_neg hm], fun h => absurd h (by decide)⟩
theorem Rw.base (h : Rw Wz w0 w gr g G A m c locs err Ab nb cb at_ from_ off) : Rw Wz Wz w gr g G A m c locs err Ab nb cb at_ from_ off := ⟨h.rb, h.wb, h.bel, h.bel.size, fun i hi _ _ => h.bel.block i hi, h.gw, h.gz, h.ne⟩
theorem Rw.grow {α : Type} {d : Kd α} {ty : TypeId} {base : Nat} {ok : Nat → Prop} {w1 : World} {v : Value} {l : List α} (h : Rw Wz w0 w gr g G A m c locs err Ab nb cb at_ from_ off) (hr : d.R ty w base ok v l) (h88 : ty ≠ 88) (h55 : ty ≠ 55) (hg : w.grownBy w1 v.ownBlock) (hb : Below w0.heap.size w w1) (hgs : gr < w0.heap.size ∧ g < w0.heap.size) : Rw Wz w0 w1 gr g G A m c locs err Ab nb cb at_ from_ off :=
 ⟨blk_grown h.rb hg (Kd.R_ne hr h.rb h88), blk_grown h.wb hg (Kd.R_ne hr h.wb h55), h.bel.trans (hb.mono (by have := h.gw; omega)), Nat.le_trans h.sz hb.size, fun i hi h1 h2 => (hb.block i hi).trans (h.kp i hi h1 h2), h.gw, h.gz, h.ne⟩
theorem Kd.R_rw7 {α : Type} {d : Kd α} {ty : TypeId} {base b : Nat} {ok : Nat → Prop} {w1 w2 : World} {v : Value} {l : List α} (hr : d.R ty w1 base ok v l) (k : Rw Wz w1 w2 gr g G A m c locs err Ab nb cb at_ from_ off) (hok : ∀ k, ok k → k ≠ gr ∧ k ≠ g) (hb : w1.heap.size ≤ b) (b0 b1 b2 b3 b4 b5 b6 : Value) : d.R ty (set7 w2 b b0 b1 b2 b3 b4 b5 b6) base ok v l := by
 refine Kd.R_mono (Kd.R_move (Kd.R_bound hr) fun i hi => ?_) (fun _ hk => hk.1)
 obtain ⟨h1, _, _, q, hq, cells, hc⟩ := hi
 have hlt : i < w1.heap.size := blk_lt hc
 rw [set7_far w2 b b0 b1 b2 b3 b4 b5 b6 i (by omega)]
 exact k.kp i hlt (hok i h1).1 (hok i h1).2
theorem RdI.ret {r : Ending} {res : Except (Int × Int) (S50 × Nat × Int)} (h : RdI Wz w0 w gr g G A m c Ab nb cb off res r w') : ∃ v, r = .returned v := by
 obtain ⟨x, v5, v6, e, a, f, o, L, hr, _⟩ := h
 exact ⟨_, hr⟩
theorem RdI.cell {r : Ending} {res : Except (Int × Int) (S50 × Nat × Int)} (h : RdI Wz w0 w gr g G A m c Ab nb cb off res r w') {a : Addr} {v : Value} (hc : w0.cell? a = some v) (h1 : a.block ≠ gr) (h2 : a.block ≠ g) : w'.cell? a = some v := by
 obtain ⟨x, v5, v6, e, a, f, o, L, hr, _, _, hR, _⟩ := h
 exact hR.cell hc h1 h2
def z50c : Array Value := #[.int .i64 0, .int .i64 0, .int .i64 0, .int .i64 0, .int .i64 0, .slice none 0 0, .slice none 0 0]
def AftI (Wz w : World) (gr g : Nat) (G : Int) (A : Option Addr) (m c : Nat) (Ab : Option Addr) (nb cb : Nat) (off : Int) (res : Except (Int × Int) (S50 × Nat × Int)) (v : Value) (b : Nat) (w' : World) : Prop :=
 ∃ (x : S50) (v5 v6 : Value) (e a f o L : Int), v = .agg #[.int .i64 x.f0, .int .i64 x.f1, .int .i64 x.f2, .int .i64 x.f3, .int .i64 x.f4, v5, v6] ∧ kI.R 3 w' w.heap.size (fun k => w.heap.size ≤ k) v5 x.f5 ∧ kI.R 3 w' w.heap.size (fun k => w.heap.size ≤ k) v6 x.f6 ∧ Rw Wz w w' gr g G A m c L e Ab nb cb a f o ∧
  (e = 0 → ∃ p : Nat, a = (p : Int) ∧ p ≤ nb ∧ o = off ∧ res = .ok (x, p, L)) ∧ (e ≠ 0 → res = .error (e, o)) ∧ w'.heap[b]? = some (.cells z50c 50 (0, 0)) ∧ w.heap.size ≤ b
theorem AftI.call {v : Value} {res : Except (Int × Int) (S50 × Nat × Int)} (h : RdI Wz w w gr g G A m c Ab nb cb off res (.returned v) w') : AftI Wz w gr g G A m c Ab nb cb off res v w'.heap.size (w'.alloc (.cells z50c 50)) := by
 obtain ⟨x, v5, v6, e, a, f, o, L, hr, h5, h6, hR, h0, h1⟩ := h
 injection hr with hr
 exact ⟨x, v5, v6, e, a, f, o, L, hr, Kd.R_alloc h5 _, Kd.R_alloc h6 _, hR.below (below_alloc (Below.refl _ _) _), h0, h1, blk_new _ _, hR.sz⟩
theorem AftI.alloc {v : Value} {res : Except (Int × Int) (S50 × Nat × Int)} {A' : Option Addr} {m' c' : Nat} {G' locs' err' at' from' off' : Int} (hk : Rw Wz w w gr g G' A' m' c' locs' err' Ab nb cb at' from' off') (h : RdI Wz (w.alloc (.cells z50c 50)) (w.alloc (.cells z50c 50)) gr g G A m c Ab nb cb off res (.returned v) w') : AftI Wz w gr g G A m c Ab nb cb off res v w.heap.size w' := by
 obtain ⟨x, v5, v6, e, a, f, o, L, hr, h5, h6, hR, h0, h1⟩ := h
 injection hr with hr
 have hs : w.heap.size ≤ (w.alloc (.cells z50c 50)).heap.size := (below_alloc (Below.refl w.heap.size w) (.cells z50c 50)).size
 have hb : w'.heap[w.heap.size]? = some (.cells z50c 50 (0, 0)) := (hR.kp w.heap.size (blk_lt (blk_new w (.cells z50c 50))) (by have := blk_lt hk.rb; omega) (by have := blk_lt hk.wb; omega)).trans (blk_new w _)
 refine ⟨x, v5, v6, e, a, f, o, L, hr, Kd.R_lower (Kd.R_mono h5 (fun k hk => Nat.le_trans hs hk)) hs, Kd.R_lower (Kd.R_mono h6 (fun k hk => Nat.le_trans hs hk)) hs, ⟨hR.rb, hR.wb, hR.bel, Nat.le_trans hs hR.sz, fun i hi g1 g2 => (hR.kp i (Nat.lt_of_lt_of_le hi hs) g1 g2).trans ?_, hR.gw, hR.gz, hR.ne⟩, h0, h1, hb, Nat.le_refl _⟩
 exact (below_alloc (Below.refl w.heap.size w) (.cells z50c 50)).block i hi
def ThingP (bs : List Int) (nb p k : Nat) (err off v e' a' f' o' : Int) : Prop := (err ≠ 0 → v = 0 ∧ e' = err ∧ o' = off) ∧
   (err = 0 → p + k ≤ nb → v = wrap64 (upN bs p k k) ∧ e' = 0 ∧ a' = ((p + k : Nat) : Int) ∧ f' = (p : Int) ∧ o' = off) ∧ (err = 0 → ¬ p + k ≤ nb → v = 0 ∧ e' = 11 ∧ o' = nb)
theorem glob_st {e o v e' a' f' o' : Int} (hn : nb = bs.length) (hby : ∀ x ∈ bs, 0 ≤ x ∧ x ≤ 255) (hT : ThingP bs nb 6 1 e o v e' a' f' o') (hE : e ≠ 0 → decR bs = .error (e, o)) (h0 : e = 0 → 6 ≤ nb ∧ o = 0 ∧ bs.take 6 = magicL.take bs.length) :
  (mustE (decide (v ≤ 16)) 18 e' ≠ 0 → decR bs = .error (mustE (decide (v ≤ 16)) 18 e', toldO (e' == 0) (mustE (decide (v ≤ 16)) 18 e') f' o')) ∧
  (mustE (decide (v ≤ 16)) 18 e' = 0 → (a' = ((7 : Nat) : Int) ∧ 7 ≤ nb) ∧ toldO (e' == 0) (mustE (decide (v ≤ 16)) 18 e') f' o' = 0 ∧ bs.take 6 = magicL.take bs.length ∧ v = bs.getD 6 0 ∧ globE (bs.getD 6 0) = 0) := by
 obtain ⟨t0, t1, t2⟩ := hT
 have kept : ∀ er : Int, er ≠ 0 → ∀ b : Bool, mustE b 18 er = er ∧ ∀ x y, toldO (er == 0) er x y = y := fun er he b => by
  refine ⟨mustE_ne he, fun x y => ?_⟩
  unfold toldO
  rw [if_neg (fun h => by rw [beq_eq_false_iff_ne.2 he] at h; exact absurd h.1 (by decide))]
 by_cases he : e = 0
 ·obtain ⟨h6, ho, hm⟩ := h0 he
  by_cases hl : 6 + 1 ≤ nb
  ·obtain ⟨rfl, rfl, rfl, rfl, rfl⟩ := t1 he hl
   have hv : wrap64 (upN bs 6 1 1) = bs.getD 6 0 := num_one bs 6 hby
   have hb := byte_at hby 6
   rw [hv]
   by_cases hg : bs.getD 6 0 ≤ 16
   ·have e1 : mustE (decide (bs.getD 6 0 ≤ 16)) 18 0 = 0 := by rw [decide_eq_true hg]; rfl
    rw [e1]
    exact ⟨fun h => absurd rfl h, fun _ => ⟨⟨rfl, hl⟩, by rw [ho]; rfl, hm, rfl, if_pos ⟨hb.1, hg⟩⟩⟩
   ·have e1 : mustE (decide (bs.getD 6 0 ≤ 16)) 18 0 = 18 := by rw [decide_eq_false hg]; rfl
    rw [e1]
    refine ⟨fun _ => ?_, fun h => absurd h (by decide)⟩
    have g1 : globE (bs.getD 6 0) = 18 := if_neg (fun h => hg h.2)
    unfold decR
    rw [if_pos hm, if_pos (by omega), if_pos (by omega), g1, if_neg (by decide)]
    rfl
  ·obtain ⟨rfl, rfl, rfl⟩ := t2 he hl
   obtain ⟨k1, k2⟩ := kept 11 (by decide) (decide ((0 : Int) ≤ 16))
   rw [k1, k2]
   refine ⟨fun _ => ?_, fun h => absurd h (by decide)⟩
   unfold decR
   rw [if_pos hm, if_pos (by omega), if_neg (by omega), hn]
 ·obtain ⟨rfl, rfl, rfl⟩ := t0 he
  obtain ⟨k1, k2⟩ := kept e' he (decide ((0 : Int) ≤ 16))
  rw [k1, k2]
  exact ⟨fun _ => hE he, fun h => absurd h he⟩
theorem cnt_st {X : Prop} {e o v e' a' f' o' : Int} (hn : nb = bs.length) (hby : ∀ x ∈ bs, 0 ≤ x ∧ x ≤ 255) (hT : ThingP bs nb 7 2 e o v e' a' f' o') (hE : e ≠ 0 → decR bs = .error (e, o)) (h0 : e = 0 → 7 ≤ nb ∧ o = 0 ∧ bs.take 6 = magicL.take bs.length ∧ globE (bs.getD 6 0) = 0) (hX : e = 0 → X) :
  (0 ≤ v ∧ v ≤ 65535) ∧ (mustE (decide (1 ≤ v)) 20 e' ≠ 0 → decR bs = .error (mustE (decide (1 ≤ v)) 20 e', toldO (e' == 0) (mustE (decide (1 ≤ v)) 20 e') f' o')) ∧
  (mustE (decide (1 ≤ v)) 20 e' = 0 → a' = ((9 : Nat) : Int) ∧ toldO (e' == 0) (mustE (decide (1 ≤ v)) 20 e') f' o' = 0 ∧ v = cntOf bs ∧ Ok9 bs ∧ X) := by
 obtain ⟨t0, t1, t2⟩ := hT
 have kept : ∀ er : Int, er ≠ 0 → ∀ b : Bool, mustE b 20 er = er ∧ ∀ x y, toldO (er == 0) er x y = y := fun er he b => by
  refine ⟨mustE_ne he, fun x y => ?_⟩
  unfold toldO
  rw [if_neg (fun h => by rw [beq_eq_false_iff_ne.2 he] at h; exact absurd h.1 (by decide))]
 by_cases he : e = 0
 ·obtain ⟨h7, ho, hm, hg⟩ := h0 he
  by_cases hl : 7 + 2 ≤ nb
  ·obtain ⟨rfl, rfl, rfl, rfl, rfl⟩ := t1 he hl
   have hv : wrap64 (upN bs 7 2 2) = cntOf bs := num_two bs 7 hby
   have b0 := byte_at hby 7
   have b1 := byte_at hby 8
   have hc : cntOf bs = bs.getD 7 0 + bs.getD 8 0 * 256 := rfl
   rw [hv]
   refine ⟨by omega, ?_⟩
   by_cases hg1 : 1 ≤ cntOf bs
   ·have e1 : mustE (decide (1 ≤ cntOf bs)) 20 0 = 0 := by rw [decide_eq_true hg1]; rfl
    rw [e1]
    exact ⟨fun h => absurd rfl h, fun _ => ⟨rfl, by rw [ho]; rfl, rfl, ⟨hm, by omega, hg, if_pos ⟨hg1, by omega⟩⟩, hX he⟩⟩
   ·have e1 : mustE (decide (1 ≤ cntOf bs)) 20 0 = 20 := by rw [decide_eq_false hg1]; rfl
    rw [e1]
    refine ⟨fun _ => ?_, fun h => absurd h (by decide)⟩
    have g1 : funcsE (cntOf bs) = 20 := if_neg (fun h => hg1 h.1)
    unfold decR
    rw [if_pos hm, if_pos (by omega), if_pos (by omega), if_pos hg, if_pos (by omega), g1, if_neg (by decide)]
    rfl
  ·obtain ⟨rfl, rfl, rfl⟩ := t2 he hl
   obtain ⟨k1, k2⟩ := kept 11 (by decide) (decide ((1 : Int) ≤ 0))
   rw [k1, k2]
   refine ⟨by omega, fun _ => ?_, fun h => absurd h (by decide)⟩
   unfold decR
   rw [if_pos hm, if_pos (by omega), if_pos (by omega), if_pos hg, if_neg (by omega), hn]
 ·obtain ⟨rfl, rfl, rfl⟩ := t0 he
  obtain ⟨k1, k2⟩ := kept e' he (decide ((1 : Int) ≤ 0))
  rw [k1, k2]
  exact ⟨by omega, fun _ => hE he, fun h => absurd h he⟩
end
end Go.Proofs.YteonppgdmhakoaaDoor.PC
namespace Go.Proofs.YteonppgdmhakoaaDoor.PC
open Go.RowKit Go.Proofs.YteonppgdmhakoaaDoorW.PrintWords Go.Proofs.YteonppgdmhakoaaDoorW.PrintLast Go.Proofs.YteonppgdmhakoaaDoorW.PrintMore
attribute [local go_sem] max2_int min2_int max_two min_two
set_option linter.unusedVariables false
set_option linter.unusedSimpArgs false
def TAB_25.T13 : Bool × List (List Nat × List Nat) := (true, [([], []), ([], []), ([1], [1]), ([2], [2]), ([3], [3]), ([4], [4]), ([], []), ([6], [6]), ([5, 7], [5, 7]), ([0, 0, 1, 2, 3, 4, 5, 6, 7, 8], [0]), ([9, 0, 1, 2, 3, 4, 5, 6, 7, 8], [9]), ([10, 0, 1, 2, 3, 4, 5, 6, 7, 8], [10]), ([11, 8, 8, 0, 1, 2, 3, 4, 5, 6, 7, 8], [8, 11])])
def TAB_25.B13 : List Nat := [0, 0, 2, 6, 14, 30, 0, 64, 254, 511, 1023, 2047, 4095]
theorem TAB_25.tab13 : rtab .any (opsOf Tryd.f25 13) = TAB_25.T13 := by kernel_rfl
theorem TAB_25.bits13 : waitsOk TAB_25.T13.2 TAB_25.B13 = true := by kernel_rfl
def TAB_25.T22 : Bool × List (List Nat × List Nat) := (true, [([], []), ([], []), ([], []), ([], []), ([2, 3], [2, 3]), ([4], [4]), ([], []), ([], []), ([], []), ([7, 8], [7, 8]), ([9], [9]), ([10], [10]), ([6, 11], [6, 11]), ([0, 1, 5, 12], [0, 1, 5, 12]), ([], []), ([14, 13, 13, 0, 1, 2, 3, 4, 5, 6, 7, 8, 9, 10, 11, 12, 13, 14], [13, 14])])
def TAB_25.B22 : List Nat := [0, 0, 0, 0, 12, 28, 0, 0, 0, 384, 896, 1920, 4032, 8191, 0, 32767]
theorem TAB_25.tab22 : rtab .any (opsOf Tryd.f25 22) = TAB_25.T22 := by kernel_rfl
theorem TAB_25.bits22 : waitsOk TAB_25.T22.2 TAB_25.B22 = true := by kernel_rfl
def TAB_25.T23 : Bool × List (List Nat × List Nat) := (true, [([], []), ([0], [0]), ([1], [1]), ([2], [2]), ([3], [3]), ([], []), ([], []), ([6], [6]), ([7], [7]), ([8], [8]), ([9], [9]), ([], []), ([10, 11], [10, 11]), ([12], [12]), ([13], [13]), ([], []), ([15], [15]), ([14, 16], [14, 16]), ([4, 5, 0, 1, 2, 3, 4, 5, 6, 7, 8, 9, 10, 11, 12, 13, 14, 15, 16, 17], [4, 5]), ([18, 0, 1, 2, 3, 4, 5, 6, 7, 8, 9, 10, 11, 12, 13, 14, 15, 16, 17], [18]), ([19, 17, 17, 0, 1, 2, 3, 4, 5, 6, 7, 8, 9, 10, 11, 12, 13, 14, 15, 16, 17], [17, 19])])
def TAB_25.B23 : List Nat := [0, 1, 3, 7, 15, 0, 0, 64, 192, 448, 960, 0, 4032, 8128, 16320, 0, 32768, 131008, 262143, 524287, 1048575]
theorem TAB_25.tab23 : rtab .any (opsOf Tryd.f25 23) = TAB_25.T23 := by kernel_rfl
theorem TAB_25.bits23 : waitsOk TAB_25.T23.2 TAB_25.B23 = true := by kernel_rfl
def TAB_25.T28 : Bool × List (List Nat × List Nat) := (true, [([], []), ([], []), ([1], [1]), ([2], [2]), ([3], [3]), ([], []), ([5], [5]), ([6], [6]), ([7], [7]), ([0, 0], [0]), ([4, 9, 0, 1, 2, 3, 4, 9], [4]), ([8, 10, 0, 1, 2, 3, 4, 5, 6, 7, 8, 9, 10], [8])])
def TAB_25.B28 : List Nat := [0, 0, 2, 6, 14, 0, 32, 96, 224, 1, 543, 2047]
theorem TAB_25.tab28 : rtab .any (opsOf Tryd.f25 28) = TAB_25.T28 := by kernel_rfl
theorem TAB_25.bits28 : waitsOk TAB_25.T28.2 TAB_25.B28 = true := by kernel_rfl
set_option maxHeartbeats 64000000 in
set_option maxRecDepth 100000 in
theorem refdec_any (A : Option Addr) (c : Nat) (bs : List Int) (w : World) (hB : kB.C w A bs.length bs) (hby : ∀ x ∈ bs, 0 ≤ x ∧ x ≤ 255) : Calls Tryd.prog 25 #[.slice A bs.length c] w fun e w' => DecPost w bs e w' := by
 have HB := Aside0.mk (Below.refl w.heap.size w)
 have HBs := Aside0.mk hB
 have HBy := Aside0.mk hby
 have hm : bs.length ≤ 9223372036854775807 := Kd.C_max hB
 obtain ⟨n, hn⟩ : ∃ n, n = bs.length := ⟨_, rfl⟩
 have Hn := Aside0.mk hn
 rw [← hn] at hm ⊢
 have Hm := Aside0.mk hm
 have HBs : Aside0 (kB.C w A n bs) := ⟨by rw [hn]; exact HBs.out⟩
 clear hB hby hn hm
 go_enter Tryd.func25, Tryd.ntmps25
 go_wp2_with (first | ((with_reducible refine gate_dst (N := 2) rfl ?_); refine box_event ?hg (N := 2) ?hd (cs := #[.int .i64 0, .slice none 0 0]) (t := 24) ?hr ?_; (case hd => rfl); (case hg => rfl); (case hr => first | (go_simp; done) | (go_simp; rfl)); intro g2 hg w2 hbox hb; have G2 : Aside0 (w.heap.size ≤ g2) := ⟨by have := HB.out.size; omega⟩; replace HB := Aside0.mk (HB.out.trans (hb.mono HB.out.size)); have BK2 := Aside0.mk hbox; clear hg hbox hb) | ((with_reducible refine gate_dst (N := 17) rfl ?_); refine box_event ?hg (N := 17) ?hd (cs := #[.int .i64 0, .slice none 0 0, .int .i64 0, .int .i64 0]) (t := 55) ?hr ?_; (case hd => rfl); (case hg => rfl); (case hr => first | (go_simp; done) | (go_simp; rfl)); intro g17 hg w17 hbox hb; have G17 : Aside0 (w.heap.size ≤ g17) := ⟨by have := HB.out.size; omega⟩; replace HB := Aside0.mk (HB.out.trans (hb.mono HB.out.size)); replace BK2 := Aside0.mk (blk_below BK2.out hb); have BK17 := Aside0.mk hbox; clear hg hbox hb) | ((with_reducible refine gate_dst (N := 21) rfl ?_); refine box_event ?hg (N := 21) ?hd (cs := #[.pointer (some ⟨g17, 0, none⟩), .slice A n c, .int .i64 0, .int .i64 0, .int .i64 0]) (t := 88) ?hr ?_; (case hd => rfl); (case hg => rfl); (case hr => first | (go_simp; done) | (go_simp; rfl)); intro g21 hg w21 hbox hb; have G21 : Aside0 (w.heap.size ≤ g21) := ⟨by have := HB.out.size; omega⟩; replace HB := Aside0.mk (HB.out.trans (hb.mono HB.out.size)); replace BK2 := Aside0.mk (blk_below BK2.out hb); replace BK17 := Aside0.mk (blk_below BK17.out hb); have BK21 := Aside0.mk hbox; clear hg hbox hb))
 have NE : Aside0 (g21 ≠ g17 ∧ g2 ≠ g21 ∧ g2 ≠ g17) := ⟨blk_ne_ty BK21.out BK17.out (by decide), blk_ne_ty BK2.out BK21.out (by decide), blk_ne_ty BK2.out BK17.out (by decide)⟩
 have HH : Aside0 (Rw w w21 w21 g21 g17 0 none 0 0 0 0 A n c 0 0 0) := ⟨⟨BK21.out, BK17.out, HB.out, Nat.le_refl _, fun _ _ _ _ => rfl, G17.out, G21.out, NE.out.1⟩⟩
 have HGi : Aside0 (g21 < w21.heap.size ∧ g17 < w21.heap.size ∧ g2 < w21.heap.size ∧ w.heap.size ≤ w21.heap.size) := ⟨blk_lt BK21.out, blk_lt BK17.out, blk_lt BK2.out, HB.out.size⟩
 clear BK21 BK17 HB
 refine (rdmagic_any bs HH.out.at2 Hn.out HBs.out HBy.out).mono ?_
 rintro r w1 hM
 obtain ⟨e, a, f, o, rfl, hR, hE1, hE0⟩ := magic_st Hn.out hM
 clear hM
 replace BK2 := Aside0.mk (HH.out.at2.gb BK2.out hR NE.out.2.1 NE.out.2.2)
 replace HH := Aside0.mk (HH.out.trans hR)
 clear hR
 have HE1 := Aside0.mk hE1
 have HE0 := Aside0.mk hE0
 clear hE1 hE0
 go_wp2_with fail
 refine (rthing_any 1 (by omega) 6 HH.out.at2 Hn.out HBs.out HBy.out (fun h => (HE0.out h).1)).mono ?_
 rintro r w2 ⟨G, e1, a1, f1, o1, rfl, hR, hT⟩
 replace BK2 := Aside0.mk (HH.out.at2.gb BK2.out hR NE.out.2.1 NE.out.2.2)
 replace HH := Aside0.mk (HH.out.trans hR)
 clear hR
 have HT : Aside0 (ThingP bs n 6 1 e o G e1 a1 f1 o1) := ⟨hT⟩
 clear hT
 have g0 := HH.out.g0
 have f0 := blk_frozen HH.out.wb 0
 go_wp2_with ((with_reducible refine gate_dst (N := 35) rfl ?_); refine Aside0.out ?_)
 clear g0 f0
 have H2 := Aside0.mk (HH.out.setG G)
 have B2 := Aside0.mk ((Below.heap_setCell w2 ⟨g17, 0, none⟩ (.int .i64 G) g2 NE.out.2.2).trans BK2.out)
 obtain ⟨w3, hw3⟩ : ∃ w3, w3 = w2.setCell ⟨g17, 0, none⟩ (.int .i64 G) := ⟨_, rfl⟩
 rw [← hw3] at H2 B2 ⊢
 clear hw3 HH BK2
 have HH := H2
 have BK2 := B2
 clear H2 B2
 refine ⟨?_⟩
 have g0 := HH.out.g0
 go_wp2_with fail
 refine (rmust_any (decide (G ≤ 16)) _ HH.out.at2).mono ?_
 rintro r w4 ⟨rfl, hR⟩
 clear g0
 obtain ⟨hG1, hG0⟩ := glob_st Hn.out HBy.out HT.out HE1.out (fun h => ⟨(HE0.out h).1.2, (HE0.out h).2.1, (HE0.out h).2.2⟩)
 generalize mustE (decide (G ≤ 16)) 18 e1 = e2 at hR hG1 hG0
 generalize toldO (e1 == 0) e2 f1 o1 = o2 at hR hG1 hG0
 replace BK2 := Aside0.mk (HH.out.at2.gb BK2.out hR NE.out.2.1 NE.out.2.2)
 replace HH := Aside0.mk (HH.out.trans hR)
 clear hR
 have HG1 := Aside0.mk hG1
 have HG0 := Aside0.mk hG0
 clear hG1 hG0 HT HE0 HE1
 go_wp2_with fail
 refine (rthing_any 2 (by omega) 7 HH.out.at2 Hn.out HBs.out HBy.out (fun h => (HG0.out h).1)).mono ?_
 rintro r w5 ⟨v, e3, a3, f3, o3, rfl, hR, hT⟩
 replace BK2 := Aside0.mk (HH.out.at2.gb BK2.out hR NE.out.2.1 NE.out.2.2)
 replace HH := Aside0.mk (HH.out.trans hR)
 clear hR
 have HT : Aside0 (ThingP bs n 7 2 e2 o2 v e3 a3 f3 o3) := ⟨hT⟩
 clear hT
 go_wp2_with fail
 refine (rmust_any (decide (1 ≤ v)) _ HH.out.at2).mono ?_
 rintro r w6 ⟨rfl, hR⟩
 obtain ⟨hb, hC1, hC0⟩ := cnt_st Hn.out HBy.out HT.out HG1.out (fun h => ⟨(HG0.out h).1.2, (HG0.out h).2.1, (HG0.out h).2.2.1, (HG0.out h).2.2.2.2⟩) (fun h => (HG0.out h).2.2.2.1)
 generalize mustE (decide (1 ≤ v)) 20 e3 = e4 at hR hC1 hC0
 generalize toldO (e3 == 0) e4 f3 o3 = o4 at hR hC1 hC0
 replace BK2 := Aside0.mk (HH.out.at2.gb BK2.out hR NE.out.2.1 NE.out.2.2)
 replace HH := Aside0.mk (HH.out.trans hR)
 clear hR
 obtain ⟨N, rfl⟩ : ∃ N : Nat, v = (N : Int) := ⟨v.toNat, by omega⟩
 have HNr : Aside0 (N ≤ 65535) := ⟨by omega⟩
 have HC1 := Aside0.mk hC1
 have HC0 := Aside0.mk hC0
 clear hC1 hC0 HT HG0 HG1 hb
 go_wp2_with fail
 go_loopw [8, 9] (fun v8 v9 w' => ∃ (q : Nat) (L e : Int) (AF : Option Addr) (m cF : Nat) (a f o : Int), q ≤ N ∧ v9 = .int .i64 (q : Int) ∧ Aside0 (Rw w w21 w' g21 g17 G AF m cF L e A n c a f o) ∧ Aside0 (w'.heap[g2]? = some (.cells #[.int .i64 0, .slice none 0 0] 24 (0, 0))) ∧ Aside0 (e ≠ 0 → decR bs = .error (e, o)) ∧ Aside0 (e = 0 → m = q ∧ a = ((9 + 5 * q : Nat) : Int) ∧ o = 0 ∧ (G = bs.getD 6 0 ∧ (N : Int) = cntOf bs ∧ Ok9 bs) ∧ runE (headStep bs) 0 q = .ok L ∧ kH.R 46 w' w21.heap.size (fun k => w21.heap.size ≤ k) (.slice AF q cF) (hsOf bs q) ∧ kI.R 3 w' w21.heap.size (fun k => w21.heap.size ≤ k) v8 (szOf bs q))) (fun _ i _ => N - (intOf i).toNat)
 case atStart => exact ⟨0, 0, e4, none, 0, 0, _, _, o4, Nat.zero_le _, rfl, HH, BK2, HC1, ⟨fun h => by obtain ⟨h1, h2, h3, h4, h5⟩ := HC0.out h; exact ⟨rfl, h1, h2, ⟨h5, h3, h4⟩, rfl, Kd.R_nil _ _ _ _ _, Kd.R_nil _ _ _ _ _⟩⟩⟩
 case round =>
  clear HH BK2 HC1 HC0
  obtain ⟨q, L, e, AF, m, cF, a, f, o, hq, rfl, HH, BK2, HE1, HE0⟩ := hrel
  obtain ⟨wq, rfl⟩ : ∃ wq, wq = wr := ⟨_, rfl⟩
  by_cases he : e = 0
  rotate_left
  ·have HO := Aside0.mk (ropen_any HH.out.at2)
   rw [beq_eq_false_iff_ne.2 he] at HO
   have HEr := Aside0.mk (HE1.out he)
   clear HE0 HE1
   by_cases hlt : q < N
   ·have hNb : decide ((q : Int) < (N : Int)) = true := decide_eq_true (by omega)
    go_wp2_with fail
    refine HO.out.mono ?_
    rintro r wx ⟨rfl, rfl⟩
    go_wp2_with fail
    go_loopw [12] (fun v12 w' => v12 = .int .i64 0 ∧ w' = wq) (fun _ _ => 0)
    case atStart => exact ⟨rfl, rfl⟩
    case round =>
     obtain ⟨rfl, rfl⟩ := hrel
     have h0 : (0 : Int) < (N : Int) := by omega
     have hN0 : decide ((0 : Int) < (N : Int)) = true := decide_eq_true h0
     go_wp2_with fail
     refine HO.out.mono ?_
     rintro r wx ⟨rfl, rfl⟩
     go_wp2_with fail
     refine HO.out.mono ?_
     rintro r wx ⟨rfl, rfl⟩
     go_wp2_with fail
     refine HO.out.mono ?_
     rintro r wx ⟨rfl, rfl⟩
     clear HO
     have e3 := HH.out.e3
     have r4 := HH.out.r4
     go_wp2_with fail
     refine start_ (n := 12) (S := fun w' => w'.cell? ⟨g17, 3, none⟩ = some (.int .i64 e) ∧ w'.cell? ⟨g21, 4, none⟩ = some (.int .i64 o)) (ds := []) #[false, false, false, false, false, false, false, false, false, false, false, false] (by kernel_rfl) rfl rfl ⟨e3, r4⟩ (fun hHeld => ?_)
     refine with_tabW TAB_25.tab28 TAB_25.bits28 (fun HT_ HW_ => ?_)
     refine pq 0 (some 161) HT_ rfl rfl (fun _ _ _ h => h) ?_
     refine pq 1 (some 162) HT_ rfl rfl (fun _ _ _ h => h) ?_
     refine pq 2 (some 163) HT_ rfl rfl (fun _ _ _ h => h) ?_
     refine pq 3 (some 164) HT_ rfl rfl (fun _ _ _ h => h) ?_
     refine pq 5 (some 166) HT_ rfl rfl (fun _ _ _ h => h) ?_
     refine pq 6 (some 167) HT_ rfl rfl (fun _ _ _ h => h) ?_
     refine pq 7 (some 168) HT_ rfl rfl (fun _ _ _ h => h) ?_
     refine pt 4 (some 165) (v := ?_) (a' := ?_) rfl rfl (take_ofW HT_.out HW_.out (by kernel_rfl)) (fun _ _ _ h => h) (Or.inl ⟨by rfl, ?_⟩) hHeld ?_ ?_
     rotate_left; (rintro w' ⟨s0, s1⟩; go_simp; with_reducible rfl); rotate_left; (simp only [Act.put, pn, i64_w, i32_w]; rfl)
     refine pt 8 (some 169) (v := ?_) (a' := ?_) rfl rfl (take_ofW HT_.out HW_.out (by kernel_rfl)) (fun _ _ _ h => h) (Or.inl ⟨by rfl, ?_⟩) hHeld ?_ ?_
     rotate_left; (rintro w' ⟨s0, s1⟩; go_simp; with_reducible rfl); rotate_left; (simp only [Act.put, pn, i64_w, i32_w]; rfl)
     refine one_ (i := 9) (N := none) #[true, true, true, true, true, true, true, true, true, true, false, false] rfl rfl (one_of HT_.out (by kernel_rfl)) (by decide) (fun K hK => ?_)
     have hc0 : World.cell? _ ⟨g2, 0, none⟩ = some (.int .i64 0) := (blk_cell BK2.out 0).trans rfl
     have hc1 : World.cell? _ ⟨g2, 1, none⟩ = some (.slice none 0 0) := (blk_cell BK2.out 1).trans rfl
     have hf0 := blk_frozen BK2.out 0
     have hf1 := blk_frozen BK2.out 1
     have HHs := ((HH.out.base.other g2 0 (.int .i64 0) NE.out.2.1 NE.out.2.2 G2.out G2.out).other g2 1 (.slice none 0 0) NE.out.2.1 NE.out.2.2 G2.out G2.out).drew
     refine skip_ (w1 := ?_) (by rfl) rfl ?_ ?_
     rotate_left
     ·go_simp
      rfl
     clear hc0 hc1 hf0 hf1
     refine hK.out _ _ ⟨HHs.e3, HHs.r4⟩ (fun hHeld => ?_)
     clear hK K
     refine pq 10 (some 3) HT_ rfl rfl (fun _ _ _ h => h) ?_
     refine pq 11 (some 4) HT_ rfl rfl (fun _ _ _ h => h) ?_
     refine done_ (done_of HT_.out (by kernel_rfl)) ?_
     go_wp2_with fail
     have hK := blk_set (blk_set BK2.out 0 (.int .i64 0)) 1 (.slice none 0 0)
     try simp only [Exit.inBlock, Exit.then]
     refine bodyPost_ret (results_prog rfl _ _ g2 24 #[.int .i64 0, .slice none 0 0] (0, 0) rfl (show (World.drew _).heap[g2]? = _ from hK.trans rfl) (by kernel_rfl)) rfl ?_
     unfold DecPost decOut
     rw [HEr.out]
     exact ⟨_, rfl, Kd.R_nil _ _ _ _ _, HHs.bel⟩
   ·have hNb : decide ((q : Int) < (N : Int)) = false := decide_eq_false (by omega)
    go_wp2_with fail
    go_loopw [12] (fun v12 w' => v12 = .int .i64 0 ∧ w' = wq) (fun _ _ => 0)
    case atStart => exact ⟨rfl, rfl⟩
    case round =>
     obtain ⟨rfl, rfl⟩ := hrel
     by_cases h0 : (0 : Int) < (N : Int)
     ·have hN0 : decide ((0 : Int) < (N : Int)) = true := decide_eq_true h0
      go_wp2_with fail
      refine HO.out.mono ?_
      rintro r wx ⟨rfl, rfl⟩
      go_wp2_with fail
      refine HO.out.mono ?_
      rintro r wx ⟨rfl, rfl⟩
      go_wp2_with fail
      refine HO.out.mono ?_
      rintro r wx ⟨rfl, rfl⟩
      clear HO
      have e3 := HH.out.e3
      have r4 := HH.out.r4
      go_wp2_with fail
      refine start_ (n := 12) (S := fun w' => w'.cell? ⟨g17, 3, none⟩ = some (.int .i64 e) ∧ w'.cell? ⟨g21, 4, none⟩ = some (.int .i64 o)) (ds := []) #[false, false, false, false, false, false, false, false, false, false, false, false] (by kernel_rfl) rfl rfl ⟨e3, r4⟩ (fun hHeld => ?_)
      refine with_tabW TAB_25.tab28 TAB_25.bits28 (fun HT_ HW_ => ?_)
      refine pq 0 (some 161) HT_ rfl rfl (fun _ _ _ h => h) ?_
      refine pq 1 (some 162) HT_ rfl rfl (fun _ _ _ h => h) ?_
      refine pq 2 (some 163) HT_ rfl rfl (fun _ _ _ h => h) ?_
      refine pq 3 (some 164) HT_ rfl rfl (fun _ _ _ h => h) ?_
      refine pq 5 (some 166) HT_ rfl rfl (fun _ _ _ h => h) ?_
      refine pq 6 (some 167) HT_ rfl rfl (fun _ _ _ h => h) ?_
      refine pq 7 (some 168) HT_ rfl rfl (fun _ _ _ h => h) ?_
      refine pt 4 (some 165) (v := ?_) (a' := ?_) rfl rfl (take_ofW HT_.out HW_.out (by kernel_rfl)) (fun _ _ _ h => h) (Or.inl ⟨by rfl, ?_⟩) hHeld ?_ ?_
      rotate_left; (rintro w' ⟨s0, s1⟩; go_simp; with_reducible rfl); rotate_left; (simp only [Act.put, pn, i64_w, i32_w]; rfl)
      refine pt 8 (some 169) (v := ?_) (a' := ?_) rfl rfl (take_ofW HT_.out HW_.out (by kernel_rfl)) (fun _ _ _ h => h) (Or.inl ⟨by rfl, ?_⟩) hHeld ?_ ?_
      rotate_left; (rintro w' ⟨s0, s1⟩; go_simp; with_reducible rfl); rotate_left; (simp only [Act.put, pn, i64_w, i32_w]; rfl)
      refine one_ (i := 9) (N := none) #[true, true, true, true, true, true, true, true, true, true, false, false] rfl rfl (one_of HT_.out (by kernel_rfl)) (by decide) (fun K hK => ?_)
      have hc0 : World.cell? _ ⟨g2, 0, none⟩ = some (.int .i64 0) := (blk_cell BK2.out 0).trans rfl
      have hc1 : World.cell? _ ⟨g2, 1, none⟩ = some (.slice none 0 0) := (blk_cell BK2.out 1).trans rfl
      have hf0 := blk_frozen BK2.out 0
      have hf1 := blk_frozen BK2.out 1
      have HHs := ((HH.out.base.other g2 0 (.int .i64 0) NE.out.2.1 NE.out.2.2 G2.out G2.out).other g2 1 (.slice none 0 0) NE.out.2.1 NE.out.2.2 G2.out G2.out).drew
      refine skip_ (w1 := ?_) (by rfl) rfl ?_ ?_
      rotate_left
      ·go_simp
       rfl
      clear hc0 hc1 hf0 hf1
      refine hK.out _ _ ⟨HHs.e3, HHs.r4⟩ (fun hHeld => ?_)
      clear hK K
      refine pq 10 (some 3) HT_ rfl rfl (fun _ _ _ h => h) ?_
      refine pq 11 (some 4) HT_ rfl rfl (fun _ _ _ h => h) ?_
      refine done_ (done_of HT_.out (by kernel_rfl)) ?_
      go_wp2_with fail
      have hK := blk_set (blk_set BK2.out 0 (.int .i64 0)) 1 (.slice none 0 0)
      try simp only [Exit.inBlock, Exit.then]
      refine bodyPost_ret (results_prog rfl _ _ g2 24 #[.int .i64 0, .slice none 0 0] (0, 0) rfl (show (World.drew _).heap[g2]? = _ from hK.trans rfl) (by kernel_rfl)) rfl ?_
      unfold DecPost decOut
      rw [HEr.out]
      exact ⟨_, rfl, Kd.R_nil _ _ _ _ _, HHs.bel⟩
     ·have hN0 : decide ((0 : Int) < (N : Int)) = false := decide_eq_false h0
      go_wp2_with fail
      refine HO.out.mono ?_
      rintro r wx ⟨rfl, rfl⟩
      go_wp2_with fail
      refine HO.out.mono ?_
      rintro r wx ⟨rfl, rfl⟩
      clear HO
      have e3 := HH.out.e3
      have r4 := HH.out.r4
      go_wp2_with fail
      refine start_ (n := 12) (S := fun w' => w'.cell? ⟨g17, 3, none⟩ = some (.int .i64 e) ∧ w'.cell? ⟨g21, 4, none⟩ = some (.int .i64 o)) (ds := []) #[false, false, false, false, false, false, false, false, false, false, false, false] (by kernel_rfl) rfl rfl ⟨e3, r4⟩ (fun hHeld => ?_)
      refine with_tabW TAB_25.tab28 TAB_25.bits28 (fun HT_ HW_ => ?_)
      refine pq 0 (some 161) HT_ rfl rfl (fun _ _ _ h => h) ?_
      refine pq 1 (some 162) HT_ rfl rfl (fun _ _ _ h => h) ?_
      refine pq 2 (some 163) HT_ rfl rfl (fun _ _ _ h => h) ?_
      refine pq 3 (some 164) HT_ rfl rfl (fun _ _ _ h => h) ?_
      refine pq 5 (some 166) HT_ rfl rfl (fun _ _ _ h => h) ?_
      refine pq 6 (some 167) HT_ rfl rfl (fun _ _ _ h => h) ?_
      refine pq 7 (some 168) HT_ rfl rfl (fun _ _ _ h => h) ?_
      refine pt 4 (some 165) (v := ?_) (a' := ?_) rfl rfl (take_ofW HT_.out HW_.out (by kernel_rfl)) (fun _ _ _ h => h) (Or.inl ⟨by rfl, ?_⟩) hHeld ?_ ?_
      rotate_left; (rintro w' ⟨s0, s1⟩; go_simp; with_reducible rfl); rotate_left; (simp only [Act.put, pn, i64_w, i32_w]; rfl)
      refine pt 8 (some 169) (v := ?_) (a' := ?_) rfl rfl (take_ofW HT_.out HW_.out (by kernel_rfl)) (fun _ _ _ h => h) (Or.inl ⟨by rfl, ?_⟩) hHeld ?_ ?_
      rotate_left; (rintro w' ⟨s0, s1⟩; go_simp; with_reducible rfl); rotate_left; (simp only [Act.put, pn, i64_w, i32_w]; rfl)
      refine one_ (i := 9) (N := none) #[true, true, true, true, true, true, true, true, true, true, false, false] rfl rfl (one_of HT_.out (by kernel_rfl)) (by decide) (fun K hK => ?_)
      have hc0 : World.cell? _ ⟨g2, 0, none⟩ = some (.int .i64 0) := (blk_cell BK2.out 0).trans rfl
      have hc1 : World.cell? _ ⟨g2, 1, none⟩ = some (.slice none 0 0) := (blk_cell BK2.out 1).trans rfl
      have hf0 := blk_frozen BK2.out 0
      have hf1 := blk_frozen BK2.out 1
      have HHs := ((HH.out.base.other g2 0 (.int .i64 0) NE.out.2.1 NE.out.2.2 G2.out G2.out).other g2 1 (.slice none 0 0) NE.out.2.1 NE.out.2.2 G2.out G2.out).drew
      refine skip_ (w1 := ?_) (by rfl) rfl ?_ ?_
      rotate_left
      ·go_simp
       rfl
      clear hc0 hc1 hf0 hf1
      refine hK.out _ _ ⟨HHs.e3, HHs.r4⟩ (fun hHeld => ?_)
      clear hK K
      refine pq 10 (some 3) HT_ rfl rfl (fun _ _ _ h => h) ?_
      refine pq 11 (some 4) HT_ rfl rfl (fun _ _ _ h => h) ?_
      refine done_ (done_of HT_.out (by kernel_rfl)) ?_
      go_wp2_with fail
      have hK := blk_set (blk_set BK2.out 0 (.int .i64 0)) 1 (.slice none 0 0)
      try simp only [Exit.inBlock, Exit.then]
      refine bodyPost_ret (results_prog rfl _ _ g2 24 #[.int .i64 0, .slice none 0 0] (0, 0) rfl (show (World.drew _).heap[g2]? = _ from hK.trans rfl) (by kernel_rfl)) rfl ?_
      unfold DecPost decOut
      rw [HEr.out]
      exact ⟨_, rfl, Kd.R_nil _ _ _ _ _, HHs.bel⟩
  subst he
  obtain ⟨hmq, rfl, rfl, hOk, hRun, hF, hS⟩ := HE0.out rfl
  obtain rfl : q = m := hmq.symm
  clear HE0 HE1
  have HO := Aside0.mk (ropen_any HH.out.at2)
  rw [show ((0 : Int) == 0) = true from rfl] at HO
  by_cases hlt : q < N
  rotate_left
  ·obtain rfl : N = q := by omega
   have HN1 : Aside0 (1 ≤ N) := ⟨by have h := hOk.2.2.fn; have h2 := hOk.2.1; unfold funcsE at h; by_cases c : 1 ≤ cntOf bs ∧ cntOf bs ≤ 65535; exact (by omega); rw [if_neg c] at h; omega⟩
   obtain ⟨bF, cF', hvF, hbF, -, -⟩ := Kd.R_form hF (by rw [hsOf_len]; exact HN1.out)
   injection hvF with hvF hlq hcF
   clear hlq
   subst hvF
   subst hcF
   obtain ⟨bS, cS, hvS, hbS, -, -⟩ := Kd.R_form hS (by rw [szOf_len]; exact HN1.out)
   have HbS : Aside0 (bS ≠ g21 ∧ bS ≠ g17) := ⟨by have := HGi.out; omega⟩
   rw [szOf_len] at hvS
   subst hvS
   have HbF : Aside0 (bF ≠ g21 ∧ bF ≠ g17 ∧ bF ≠ g2 ∧ w21.heap.size ≤ bF ∧ w.heap.size ≤ bF) := ⟨by have := HGi.out; omega⟩
   have HHr := Aside0.mk (heads_run HBy.out N L hRun)
   have HRun := Aside0.mk hRun
   have HF := Aside0.mk hF
   have HS := Aside0.mk hS
   have HOk := Aside0.mk hOk
   obtain ⟨fs, hfs⟩ : ∃ fs, fs = fsOf (hsOf bs N) := ⟨_, rfl⟩
   have HFs := Aside0.mk hfs
   have HFl : Aside0 (fs.length = N) := ⟨by rw [hfs, fsOf_len, hsOf_len]⟩
   clear hfs hF hS hRun hOk hbF hbS hmq hq
   have hNb : decide ((N : Int) < (N : Int)) = false := decide_eq_false (by omega)
   go_wp2_with fail
   clear hNb hlt
   go_loopw [12] (fun v12 w' => ∃ (q : Nat) (s : Nat × Int × List (List S50)) (hs : List HV) (e L2 a f o : Int), q ≤ N ∧ v12 = .int .i64 (q : Int) ∧ Aside0 (Rw w w21 w' g21 g17 G (some ⟨bF, 0, none⟩) N cF L2 e A n c a f o) ∧ Aside0 (w'.heap[g2]? = some (.cells #[.int .i64 0, .slice none 0 0] 24 (0, 0))) ∧ Aside0 (kI.R 3 w' w21.heap.size (fun k => w21.heap.size ≤ k) (.slice (some ⟨bS, 0, none⟩) N cS) (szOf bs N)) ∧ Aside0 (e ≠ 0 → decR bs = .error (e, o)) ∧ Aside0 (e = 0 → a = (s.1 : Int) ∧ L2 = s.2.1 ∧ o = 0 ∧ runE (funcStep G fs bs) (9 + 5 * N, L, []) q = .ok s ∧ kH.R 46 w' w21.heap.size (fun k => w21.heap.size ≤ k) (.slice (some ⟨bF, 0, none⟩) N cF) hs ∧ fsOf hs = fs ∧ (∀ i, q ≤ i → i < N → (hs.getD i hv0).c = .slice none 0 0) ∧ CodeQ w' w21.heap.size hs s.2.2 q (.slice none 0 0) ∧ (s.2.2.length = q ∧ s.1 ≤ bs.length ∧ 0 ≤ s.2.1 ∧ s.2.1 < 1048576))) (fun i _ => N - (intOf i).toNat)
   case atStart => exact ⟨0, (9 + 5 * N, L, []), hsOf bs N, 0, L, _, _, 0, Nat.zero_le _, rfl, HH, BK2, HS, ⟨fun h => absurd rfl h⟩, ⟨fun _ => ⟨rfl, rfl, rfl, rfl, HF.out, HFs.out.symm, fun i _ hi => by rw [hs_at bs N i hi]; rfl, fun i hi => by omega, rfl, HHr.out.2.1 HOk.out.2.2.h9, HHr.out.1.1, HHr.out.1.2⟩⟩⟩
   case round =>
    clear HH BK2 HF HS HO
    obtain ⟨q, s, hs, e, L2, a, f, o, hq, rfl, HH, BK2, HS, HE1, HE0⟩ := hrel
    obtain ⟨wq, rfl⟩ : ∃ wq, wq = wr := ⟨_, rfl⟩
    by_cases he : e = 0
    rotate_left
    ·have HO := Aside0.mk (ropen_any HH.out.at2)
     rw [beq_eq_false_iff_ne.2 he] at HO
     have HEr := Aside0.mk (HE1.out he)
     clear HE0 HE1
     by_cases hlt : q < N
     ·have hNb : decide ((q : Int) < (N : Int)) = true := decide_eq_true (by omega)
      go_wp2_with fail
      refine HO.out.mono ?_
      rintro r wx ⟨rfl, rfl⟩
      go_wp2_with fail
      refine HO.out.mono ?_
      rintro r wx ⟨rfl, rfl⟩
      go_wp2_with fail
      refine HO.out.mono ?_
      rintro r wx ⟨rfl, rfl⟩
      clear HO
      have e3 := HH.out.e3
      have r4 := HH.out.r4
      go_wp2_with fail
      refine start_ (n := 12) (S := fun w' => w'.cell? ⟨g17, 3, none⟩ = some (.int .i64 e) ∧ w'.cell? ⟨g21, 4, none⟩ = some (.int .i64 o)) (ds := []) #[false, false, false, false, false, false, false, false, false, false, false, false] (by kernel_rfl) rfl rfl ⟨e3, r4⟩ (fun hHeld => ?_)
      refine with_tabW TAB_25.tab28 TAB_25.bits28 (fun HT_ HW_ => ?_)
      refine pq 0 (some 161) HT_ rfl rfl (fun _ _ _ h => h) ?_
      refine pq 1 (some 162) HT_ rfl rfl (fun _ _ _ h => h) ?_
      refine pq 2 (some 163) HT_ rfl rfl (fun _ _ _ h => h) ?_
      refine pq 3 (some 164) HT_ rfl rfl (fun _ _ _ h => h) ?_
      refine pq 5 (some 166) HT_ rfl rfl (fun _ _ _ h => h) ?_
      refine pq 6 (some 167) HT_ rfl rfl (fun _ _ _ h => h) ?_
      refine pq 7 (some 168) HT_ rfl rfl (fun _ _ _ h => h) ?_
      refine pt 4 (some 165) (v := ?_) (a' := ?_) rfl rfl (take_ofW HT_.out HW_.out (by kernel_rfl)) (fun _ _ _ h => h) (Or.inl ⟨by rfl, ?_⟩) hHeld ?_ ?_
      rotate_left; (rintro w' ⟨s0, s1⟩; go_simp; with_reducible rfl); rotate_left; (simp only [Act.put, pn, i64_w, i32_w]; rfl)
      refine pt 8 (some 169) (v := ?_) (a' := ?_) rfl rfl (take_ofW HT_.out HW_.out (by kernel_rfl)) (fun _ _ _ h => h) (Or.inl ⟨by rfl, ?_⟩) hHeld ?_ ?_
      rotate_left; (rintro w' ⟨s0, s1⟩; go_simp; with_reducible rfl); rotate_left; (simp only [Act.put, pn, i64_w, i32_w]; rfl)
      refine one_ (i := 9) (N := none) #[true, true, true, true, true, true, true, true, true, true, false, false] rfl rfl (one_of HT_.out (by kernel_rfl)) (by decide) (fun K hK => ?_)
      have hc0 : World.cell? _ ⟨g2, 0, none⟩ = some (.int .i64 0) := (blk_cell BK2.out 0).trans rfl
      have hc1 : World.cell? _ ⟨g2, 1, none⟩ = some (.slice none 0 0) := (blk_cell BK2.out 1).trans rfl
      have hf0 := blk_frozen BK2.out 0
      have hf1 := blk_frozen BK2.out 1
      have HHs := ((HH.out.base.other g2 0 (.int .i64 0) NE.out.2.1 NE.out.2.2 G2.out G2.out).other g2 1 (.slice none 0 0) NE.out.2.1 NE.out.2.2 G2.out G2.out).drew
      refine skip_ (w1 := ?_) (by rfl) rfl ?_ ?_
      rotate_left
      ·go_simp
       rfl
      clear hc0 hc1 hf0 hf1
      refine hK.out _ _ ⟨HHs.e3, HHs.r4⟩ (fun hHeld => ?_)
      clear hK K
      refine pq 10 (some 3) HT_ rfl rfl (fun _ _ _ h => h) ?_
      refine pq 11 (some 4) HT_ rfl rfl (fun _ _ _ h => h) ?_
      refine done_ (done_of HT_.out (by kernel_rfl)) ?_
      go_wp2_with fail
      have hK := blk_set (blk_set BK2.out 0 (.int .i64 0)) 1 (.slice none 0 0)
      try simp only [Exit.inBlock, Exit.then]
      refine bodyPost_ret (results_prog rfl _ _ g2 24 #[.int .i64 0, .slice none 0 0] (0, 0) rfl (show (World.drew _).heap[g2]? = _ from hK.trans rfl) (by kernel_rfl)) rfl ?_
      unfold DecPost decOut
      rw [HEr.out]
      exact ⟨_, rfl, Kd.R_nil _ _ _ _ _, HHs.bel⟩
     ·have hNb : decide ((q : Int) < (N : Int)) = false := decide_eq_false (by omega)
      go_wp2_with fail
      refine HO.out.mono ?_
      rintro r wx ⟨rfl, rfl⟩
      go_wp2_with fail
      refine HO.out.mono ?_
      rintro r wx ⟨rfl, rfl⟩
      clear HO
      have e3 := HH.out.e3
      have r4 := HH.out.r4
      go_wp2_with fail
      refine start_ (n := 12) (S := fun w' => w'.cell? ⟨g17, 3, none⟩ = some (.int .i64 e) ∧ w'.cell? ⟨g21, 4, none⟩ = some (.int .i64 o)) (ds := []) #[false, false, false, false, false, false, false, false, false, false, false, false] (by kernel_rfl) rfl rfl ⟨e3, r4⟩ (fun hHeld => ?_)
      refine with_tabW TAB_25.tab28 TAB_25.bits28 (fun HT_ HW_ => ?_)
      refine pq 0 (some 161) HT_ rfl rfl (fun _ _ _ h => h) ?_
      refine pq 1 (some 162) HT_ rfl rfl (fun _ _ _ h => h) ?_
      refine pq 2 (some 163) HT_ rfl rfl (fun _ _ _ h => h) ?_
      refine pq 3 (some 164) HT_ rfl rfl (fun _ _ _ h => h) ?_
      refine pq 5 (some 166) HT_ rfl rfl (fun _ _ _ h => h) ?_
      refine pq 6 (some 167) HT_ rfl rfl (fun _ _ _ h => h) ?_
      refine pq 7 (some 168) HT_ rfl rfl (fun _ _ _ h => h) ?_
      refine pt 4 (some 165) (v := ?_) (a' := ?_) rfl rfl (take_ofW HT_.out HW_.out (by kernel_rfl)) (fun _ _ _ h => h) (Or.inl ⟨by rfl, ?_⟩) hHeld ?_ ?_
      rotate_left; (rintro w' ⟨s0, s1⟩; go_simp; with_reducible rfl); rotate_left; (simp only [Act.put, pn, i64_w, i32_w]; rfl)
      refine pt 8 (some 169) (v := ?_) (a' := ?_) rfl rfl (take_ofW HT_.out HW_.out (by kernel_rfl)) (fun _ _ _ h => h) (Or.inl ⟨by rfl, ?_⟩) hHeld ?_ ?_
      rotate_left; (rintro w' ⟨s0, s1⟩; go_simp; with_reducible rfl); rotate_left; (simp only [Act.put, pn, i64_w, i32_w]; rfl)
      refine one_ (i := 9) (N := none) #[true, true, true, true, true, true, true, true, true, true, false, false] rfl rfl (one_of HT_.out (by kernel_rfl)) (by decide) (fun K hK => ?_)
      have hc0 : World.cell? _ ⟨g2, 0, none⟩ = some (.int .i64 0) := (blk_cell BK2.out 0).trans rfl
      have hc1 : World.cell? _ ⟨g2, 1, none⟩ = some (.slice none 0 0) := (blk_cell BK2.out 1).trans rfl
      have hf0 := blk_frozen BK2.out 0
      have hf1 := blk_frozen BK2.out 1
      have HHs := ((HH.out.base.other g2 0 (.int .i64 0) NE.out.2.1 NE.out.2.2 G2.out G2.out).other g2 1 (.slice none 0 0) NE.out.2.1 NE.out.2.2 G2.out G2.out).drew
      refine skip_ (w1 := ?_) (by rfl) rfl ?_ ?_
      rotate_left
      ·go_simp
       rfl
      clear hc0 hc1 hf0 hf1
      refine hK.out _ _ ⟨HHs.e3, HHs.r4⟩ (fun hHeld => ?_)
      clear hK K
      refine pq 10 (some 3) HT_ rfl rfl (fun _ _ _ h => h) ?_
      refine pq 11 (some 4) HT_ rfl rfl (fun _ _ _ h => h) ?_
      refine done_ (done_of HT_.out (by kernel_rfl)) ?_
      go_wp2_with fail
      have hK := blk_set (blk_set BK2.out 0 (.int .i64 0)) 1 (.slice none 0 0)
      try simp only [Exit.inBlock, Exit.then]
      refine bodyPost_ret (results_prog rfl _ _ g2 24 #[.int .i64 0, .slice none 0 0] (0, 0) rfl (show (World.drew _).heap[g2]? = _ from hK.trans rfl) (by kernel_rfl)) rfl ?_
      unfold DecPost decOut
      rw [HEr.out]
      exact ⟨_, rfl, Kd.R_nil _ _ _ _ _, HHs.bel⟩
    subst he
    obtain ⟨rfl, rfl, rfl, hRf, hF, hFe, hNil, hCq, hIn⟩ := HE0.out rfl
    have HRf := Aside0.mk hRf
    have HF := Aside0.mk hF
    have HFe := Aside0.mk hFe
    have HNil := Aside0.mk hNil
    have HCq := Aside0.mk hCq
    have HIn := Aside0.mk hIn
    clear HE0 HE1 hRf hF hFe hNil hCq hIn
    have HO := Aside0.mk (ropen_any HH.out.at2)
    rw [show ((0 : Int) == 0) = true from rfl] at HO
    by_cases hlt : q < N
    rotate_left
    ·have hNb : decide ((q : Int) < (N : Int)) = false := decide_eq_false (by omega)
     obtain rfl : N = q := by omega
     go_wp2_with fail
     clear hNb hlt hq
     refine HO.out.mono ?_
     rintro r wx ⟨rfl, rfl⟩
     clear HO
     have r2 := HH.out.r2
     obtain ⟨eb, heb⟩ : ∃ eb, (((s.1 : Nat) : Int) == (n : Int)) = eb := ⟨_, rfl⟩
     have HEb := Aside0.mk heb
     have HD := Aside0.mk (HOk.out.2.2.whole HOk.out.2.1 HRun.out (by rw [← HOk.out.1, ← HFs.out]; exact HRf.out))
     cases eb with
     | false =>
      have e3 := HH.out.e3
      have f3 := blk_frozen HH.out.wb 3
      go_wp2_with ((with_reducible refine gate_dst (N := 155) rfl ?_); refine Aside0.out ?_)
      clear e3 f3 r2
      have H2 := Aside0.mk (HH.out.sete 22)
      have B2 := Aside0.mk ((Below.heap_setCell wq ⟨g17, 3, none⟩ (.int .i64 22) g2 NE.out.2.2).trans BK2.out)
      obtain ⟨wr, hwr⟩ : ∃ wr, wr = (World.setCell wq ⟨g17, 3, none⟩ (.int .i64 22)) := ⟨_, rfl⟩
      rw [← hwr] at H2 B2 ⊢
      clear hwr HH BK2 HF HS HCq
      have HH := H2
      have BK2 := B2
      clear H2 B2
      refine ⟨?_⟩
      have r2 := HH.out.r2
      have r4 := HH.out.r4
      have f4 := blk_frozen HH.out.rb 4
      go_wp2_with fail
      clear r2 r4 f4
      have H2 := Aside0.mk (HH.out.set4 (s.1 : Int))
      have B2 := Aside0.mk ((Below.heap_setCell wr ⟨g21, 4, none⟩ (.int .i64 (s.1 : Int)) g2 NE.out.2.1).trans BK2.out)
      obtain ⟨ws, hws⟩ : ∃ ws, ws = (World.setCell wr ⟨g21, 4, none⟩ (.int .i64 (s.1 : Int))) := ⟨_, rfl⟩
      rw [← hws] at H2 B2 ⊢
      clear hws HH BK2
      have HH := H2
      have BK2 := B2
      clear H2 B2
      have HO := Aside0.mk (ropen_any HH.out.at2)
      rw [show ((22 : Int) == 0) = false from rfl] at HO
      have HEr : Aside0 (decR bs = .error (22, (s.1 : Int))) := ⟨by rw [HD.out, if_neg (fun h => by have := HEb.out; rw [beq_eq_false_iff_ne] at this; rw [← Hn.out] at h; omega)]⟩
      refine HO.out.mono ?_
      rintro r wx ⟨rfl, rfl⟩
      clear HO
      have e3 := HH.out.e3
      have r4 := HH.out.r4
      go_wp2_with fail
      refine start_ (n := 12) (S := fun w' => w'.cell? ⟨g17, 3, none⟩ = some (.int .i64 22) ∧ w'.cell? ⟨g21, 4, none⟩ = some (.int .i64 (s.1 : Int))) (ds := []) #[false, false, false, false, false, false, false, false, false, false, false, false] (by kernel_rfl) rfl rfl ⟨e3, r4⟩ (fun hHeld => ?_)
      refine with_tabW TAB_25.tab28 TAB_25.bits28 (fun HT_ HW_ => ?_)
      refine pq 0 (some 161) HT_ rfl rfl (fun _ _ _ h => h) ?_
      refine pq 1 (some 162) HT_ rfl rfl (fun _ _ _ h => h) ?_
      refine pq 2 (some 163) HT_ rfl rfl (fun _ _ _ h => h) ?_
      refine pq 3 (some 164) HT_ rfl rfl (fun _ _ _ h => h) ?_
      refine pq 5 (some 166) HT_ rfl rfl (fun _ _ _ h => h) ?_
      refine pq 6 (some 167) HT_ rfl rfl (fun _ _ _ h => h) ?_
      refine pq 7 (some 168) HT_ rfl rfl (fun _ _ _ h => h) ?_
      refine pt 4 (some 165) (v := ?_) (a' := ?_) rfl rfl (take_ofW HT_.out HW_.out (by kernel_rfl)) (fun _ _ _ h => h) (Or.inl ⟨by rfl, ?_⟩) hHeld ?_ ?_
      rotate_left; (rintro w' ⟨s0, s1⟩; go_simp; with_reducible rfl); rotate_left; (simp only [Act.put, pn, i64_w, i32_w]; rfl)
      refine pt 8 (some 169) (v := ?_) (a' := ?_) rfl rfl (take_ofW HT_.out HW_.out (by kernel_rfl)) (fun _ _ _ h => h) (Or.inl ⟨by rfl, ?_⟩) hHeld ?_ ?_
      rotate_left; (rintro w' ⟨s0, s1⟩; go_simp; with_reducible rfl); rotate_left; (simp only [Act.put, pn, i64_w, i32_w]; rfl)
      refine one_ (i := 9) (N := none) #[true, true, true, true, true, true, true, true, true, true, false, false] rfl rfl (one_of HT_.out (by kernel_rfl)) (by decide) (fun K hK => ?_)
      have hc0 : World.cell? _ ⟨g2, 0, none⟩ = some (.int .i64 0) := (blk_cell BK2.out 0).trans rfl
      have hc1 : World.cell? _ ⟨g2, 1, none⟩ = some (.slice none 0 0) := (blk_cell BK2.out 1).trans rfl
      have hf0 := blk_frozen BK2.out 0
      have hf1 := blk_frozen BK2.out 1
      have HHs := ((HH.out.base.other g2 0 (.int .i64 0) NE.out.2.1 NE.out.2.2 G2.out G2.out).other g2 1 (.slice none 0 0) NE.out.2.1 NE.out.2.2 G2.out G2.out).drew
      refine skip_ (w1 := ?_) (by rfl) rfl ?_ ?_
      rotate_left
      ·go_simp
       rfl
      clear hc0 hc1 hf0 hf1
      refine hK.out _ _ ⟨HHs.e3, HHs.r4⟩ (fun hHeld => ?_)
      clear hK K
      refine pq 10 (some 3) HT_ rfl rfl (fun _ _ _ h => h) ?_
      refine pq 11 (some 4) HT_ rfl rfl (fun _ _ _ h => h) ?_
      refine done_ (done_of HT_.out (by kernel_rfl)) ?_
      go_wp2_with fail
      have hK := blk_set (blk_set BK2.out 0 (.int .i64 0)) 1 (.slice none 0 0)
      try simp only [Exit.inBlock, Exit.then]
      refine bodyPost_ret (results_prog rfl _ _ g2 24 #[.int .i64 0, .slice none 0 0] (0, 0) rfl (show (World.drew _).heap[g2]? = _ from hK.trans rfl) (by kernel_rfl)) rfl ?_
      unfold DecPost decOut
      rw [HEr.out]
      exact ⟨_, rfl, Kd.R_nil _ _ _ _ _, HHs.bel⟩
     | true =>
      have HO := Aside0.mk (ropen_any HH.out.at2)
      rw [show ((0 : Int) == 0) = true from rfl] at HO
      go_wp2_with fail
      clear r2
      refine HO.out.mono ?_
      rintro r wx ⟨rfl, rfl⟩
      clear HO
      have g0 := HH.out.g0
      have g1 := HH.out.g1
      have hc0 : World.cell? _ ⟨g2, 0, none⟩ = some (.int .i64 0) := (blk_cell BK2.out 0).trans rfl
      have hc1 : World.cell? _ ⟨g2, 1, none⟩ = some (.slice none 0 0) := (blk_cell BK2.out 1).trans rfl
      have hf0 := blk_frozen BK2.out 0
      have hf1 := blk_frozen BK2.out 1
      go_wp2_with fail
      clear g0 g1 hc0 hc1 hf0 hf1
      have hK := blk_set (blk_set BK2.out 0 (.int .i64 G)) 1 (.slice (some ⟨bF, 0, none⟩) N cF)
      have HHs := (HH.out.base.other g2 0 (.int .i64 G) NE.out.2.1 NE.out.2.2 G2.out G2.out).other g2 1 (.slice (some ⟨bF, 0, none⟩) N cF) NE.out.2.1 NE.out.2.2 G2.out G2.out
      have HPr := to_prog HF.out HCq.out HIn.out.1
      rw [withCode_eq s.2.2 (HFe.out.trans HFs.out)] at HPr
      have HE : decR bs = .ok (G, withCode (hsOf bs N) s.2.2) := by rw [HD.out, if_pos (by have := HEb.out; rw [beq_iff_eq] at this; rw [← Hn.out]; omega), HOk.out.1]
      try simp only [Exit.inBlock, Exit.then]
      refine bodyPost_ret (results_prog rfl _ _ g2 24 #[.int .i64 G, .slice (some ⟨bF, 0, none⟩) N cF] (0, 0) rfl (hK.trans rfl) (by kernel_rfl)) rfl ?_
      unfold DecPost decOut
      rw [HE]
      exact ⟨_, rfl, Kd.R_lower (Kd.R_mono (Kd.R_far (Kd.R_far HPr (fun k hk => by show k ≠ g2; have := HGi.out; omega) _) (fun k hk => by show k ≠ g2; have := HGi.out; omega) _) (fun k hk => Nat.le_trans HGi.out.2.2.2 hk)) HGi.out.2.2.2, HHs.bel⟩
    have hwp : wrap64 ((q : Int) + 1) = (q : Int) + 1 := wrap_in (by have := HNr.out; omega) (by have := HNr.out; omega)
    have HW1 := Aside0.mk hwp
    clear hwp
    have HLt := Aside0.mk hlt
    have q0 : (0 : Int) ≤ (q : Int) := Int.natCast_nonneg q
    have q1 : (q : Int) < (N : Int) := Int.ofNat_lt.mpr hlt
    have hNb : decide ((q : Int) < (N : Int)) = true := decide_eq_true q1
    have HHl : Aside0 (hs.length = N) := ⟨((Kd.R_reads' HF.out).1).symm⟩
    have HAt := Aside0.mk (fs_heads (HFe.out.trans HFs.out) q (by rw [HHl.out]; exact hlt) (by rw [hsOf_len]; exact hlt))
    rw [hs_at bs N q hlt] at HAt
    have hCell := kH_at HF.out q hlt
    obtain ⟨P, hP⟩ : ∃ P, P = (hs.getD q hv0).P := ⟨_, rfl⟩
    obtain ⟨R, hR⟩ : ∃ R, R = (hs.getD q hv0).R := ⟨_, rfl⟩
    obtain ⟨V, hV⟩ : ∃ V, V = (hs.getD q hv0).V := ⟨_, rfl⟩
    rw [HNil.out q (Nat.le_refl q) hlt, ← hP, ← hR, ← hV] at hCell
    obtain ⟨y0, y1, y2, y3, -⟩ := hCell
    have HbW : Aside0 (w21.heap.size ≤ wq.heap.size ∧ bF < wq.heap.size) := ⟨HH.out.sz, World.block_lt_of_cell? wq _ y0⟩
    rw [← hP, ← hR, ← hV] at HAt
    clear hP hR hV
    have HMr := Aside0.mk (HHr.out.2.2 q hlt)
    obtain ⟨m9, hm9⟩ : ∃ m, m = hvN bs (9 + 5 * q) := ⟨_, rfl⟩
    have HMv := Aside0.mk hm9
    rw [← hm9] at HMr
    obtain ⟨M, rfl⟩ : ∃ M : Nat, m9 = (M : Int) := ⟨m9.toNat, by have := HMr.out; omega⟩
    clear hm9 hq
    have HStp := Aside0.mk (runE_next HRf.out)
    have HStq : Aside0 (funcStep G fs bs q s = match runE (codeStep G fs R V (M : Int) bs) (s.1, s.2.1, []) M with | .error e => .error e | .ok t => .ok (t.1, t.2.1, s.2.2 ++ [t.2.2])) := ⟨by unfold funcStep; rw [← HMv.out, ← HAt.out.2.1, ← HAt.out.2.2, Int.toNat_natCast]; rfl⟩
    have g1 := HH.out.g1
    go_wp2_with fail
    refine HO.out.mono ?_
    rintro r wx ⟨rfl, rfl⟩
    clear HO hlt hNb
    have HB := Aside0.mk (Below.refl wq.heap.size wq)
    go_wp2_with ((with_reducible refine gate_dst (N := 13) rfl ?_); refine box_event ?hg (N := 13) ?hd (cs := #[.int .i64 0, .int .i64 0, .int .i64 0, .slice none 0 0]) (t := 46) ?hr ?_; (case hd => rfl); (case hg => rfl); (case hr => first | (go_simp; done) | (go_simp; rfl)); intro g13 hg w13 hbox hb; have G13 : Aside0 (wq.heap.size ≤ g13) := ⟨by have := HB.out.size; omega⟩; replace HB := Aside0.mk (HB.out.trans (hb.mono HB.out.size)); have BK13 := Aside0.mk hbox; clear hg hbox hb; have k0 : World.cell? w13 ⟨g13, 0, none⟩ = some (.int .i64 0) := (blk_cell BK13.out 0).trans rfl; have k1 : World.cell? w13 ⟨g13, 1, none⟩ = some (.int .i64 0) := (blk_cell BK13.out 1).trans rfl; have k2 : World.cell? w13 ⟨g13, 2, none⟩ = some (.int .i64 0) := (blk_cell BK13.out 2).trans rfl; have k3 : World.cell? w13 ⟨g13, 3, none⟩ = some (.slice none 0 0) := (blk_cell BK13.out 3).trans rfl; have q0 := blk_frozen BK13.out 0; have q1 := blk_frozen BK13.out 1; have q2 := blk_frozen BK13.out 2; have q3 := blk_frozen BK13.out 3)
    clear k0 q0 k1 q1 k2 q2 k3 q3
    have hB1 : Below wq.heap.size wq (World.setCell (World.setCell (World.setCell (World.setCell w13 ⟨g13, 0, none⟩ (.int .i64 P)) ⟨g13, 1, none⟩ (.int .i64 R)) ⟨g13, 2, none⟩ (.int .i64 V)) ⟨g13, 3, none⟩ (.slice none 0 0)) := (below_set ((below_set ((below_set ((below_set (HB.out) G13.out)) G13.out)) G13.out)) G13.out)
    have Bb : Aside0 ((World.heap (World.setCell (World.setCell (World.setCell (World.setCell w13 ⟨g13, 0, none⟩ (.int .i64 P)) ⟨g13, 1, none⟩ (.int .i64 R)) ⟨g13, 2, none⟩ (.int .i64 V)) ⟨g13, 3, none⟩ (.slice none 0 0)))[g13]? = some (.cells #[.int .i64 P, .int .i64 R, .int .i64 V, .slice none 0 0] 46 (0, 0))) := ⟨((blk_set ((blk_set ((blk_set ((blk_set (BK13.out) 0 (.int .i64 P))) 1 (.int .i64 R))) 2 (.int .i64 V))) 3 (.slice none 0 0))).trans rfl⟩
    have HH_ := Aside0.mk (HH.out.below hB1)
    have BK2_ := Aside0.mk (blk_below BK2.out hB1)
    have HF_ := Aside0.mk (Kd.R_below HF.out hB1)
    have HS_ := Aside0.mk (Kd.R_below HS.out hB1)
    have HCq_ := Aside0.mk (HCq.out.below hB1)
    obtain ⟨wb, hwb⟩ : ∃ wb, wb = (World.setCell (World.setCell (World.setCell (World.setCell w13 ⟨g13, 0, none⟩ (.int .i64 P)) ⟨g13, 1, none⟩ (.int .i64 R)) ⟨g13, 2, none⟩ (.int .i64 V)) ⟨g13, 3, none⟩ (.slice none 0 0)) := ⟨_, rfl⟩
    rw [← hwb] at Bb HH_ BK2_ HF_ HS_ HCq_ ⊢
    clear hwb hB1 HB BK13 HH BK2 HF HS HCq
    have BK13 := Bb
    clear Bb
    have HH := HH_
    have BK2 := BK2_
    have HF := HF_
    have HS := HS_
    have HCq := HCq_
    clear HH_ BK2_ HF_ HS_ HCq_
    have NE13 : Aside0 (g13 ≠ g21 ∧ g13 ≠ g17 ∧ g13 ≠ bF ∧ g13 ≠ g2) := ⟨by have := G13.out; have := HbW.out; have := HGi.out; omega⟩
    clear y0 y1 y2 y3 g1 q0 q1
    go_wp2_with fail
    go_loopw [14] (fun v14 w' => ∃ (k3 : Nat) (t : Nat × Int × List S50) (vq : Value) (hs2 : List HV) (e L3 a f o : Int), k3 ≤ M ∧ v14 = .int .i64 (k3 : Int) ∧ Aside0 (Rw w w21 w' g21 g17 G (some ⟨bF, 0, none⟩) N cF L3 e A n c a f o) ∧ Aside0 (w'.heap[g2]? = some (.cells #[.int .i64 0, .slice none 0 0] 24 (0, 0))) ∧ Aside0 (w'.heap[g13]? = some (.cells #[.int .i64 P, .int .i64 R, .int .i64 V, .slice none 0 0] 46 (0, 0))) ∧ Aside0 (kI.R 3 w' w21.heap.size (fun k => w21.heap.size ≤ k) (.slice (some ⟨bS, 0, none⟩) N cS) (szOf bs N)) ∧ Aside0 (e ≠ 0 → decR bs = .error (e, o)) ∧ Aside0 (e = 0 → a = (t.1 : Int) ∧ L3 = t.2.1 ∧ o = 0 ∧ runE (codeStep G fs R V (M : Int) bs) (s.1, s.2.1, []) k3 = .ok t ∧ kH.R 46 w' w21.heap.size (fun k => w21.heap.size ≤ k) (.slice (some ⟨bF, 0, none⟩) N cF) hs2 ∧ (hs2.getD q hv0).c = vq ∧ fsOf hs2 = fs ∧ (∀ i, q + 1 ≤ i → i < N → (hs2.getD i hv0).c = .slice none 0 0) ∧ CodeQ w' w21.heap.size hs2 s.2.2 q vq ∧ k50.R 50 w' w21.heap.size (fun k => w21.heap.size ≤ k) vq t.2.2 ∧ (t.2.2.length = k3 ∧ t.1 ≤ bs.length ∧ 0 ≤ t.2.1 ∧ t.2.1 < 1048576))) (fun i _ => M - (intOf i).toNat)
    case atStart => exact ⟨0, (s.1, s.2.1, []), .slice none 0 0, hs, 0, s.2.1, _, _, 0, Nat.zero_le _, rfl, HH, BK2, BK13, HS, ⟨fun h => absurd rfl h⟩, ⟨fun _ => ⟨rfl, rfl, rfl, rfl, HF.out, HNil.out q (Nat.le_refl q) HLt.out, HFe.out, fun i h1 h2 => HNil.out i (by omega) h2, HCq.out, Kd.R_nil _ _ _ _ _, rfl, HIn.out.2.1, HIn.out.2.2.1, HIn.out.2.2.2⟩⟩⟩
    case round =>
     clear HH BK2 BK13 HS HF HCq
     obtain ⟨k3, t, vq, hs2, e, L3, a, f, o, hk3, rfl, HH, BK2, BK13, HS, HE1, HE0⟩ := hrel
     obtain ⟨wk, rfl⟩ : ∃ wk, wk = wr := ⟨_, rfl⟩
     have hsz := sz_cell HS.out q HLt.out
     rw [← HMv.out] at hsz
     have q0 : (0 : Int) ≤ (q : Int) := Int.natCast_nonneg q
     have q1 : (q : Int) < (N : Int) := Int.ofNat_lt.mpr HLt.out
     by_cases he : e = 0
     rotate_left
     ·have HO := Aside0.mk (ropen_any HH.out.at2)
      rw [beq_eq_false_iff_ne.2 he] at HO
      clear HE0
      by_cases hlt3 : k3 < M
      ·have hMb : decide ((k3 : Int) < (M : Int)) = true := decide_eq_true (by omega)
       go_wp2_with fail
       refine HO.out.mono ?_
       rintro r wx ⟨rfl, rfl⟩
       have hwp := HW1.out
       go_wp2_with fail
       go_roundw
       case rel => exact ⟨q + 1, s, hs, _, _, _, _, _, Nat.succ_le_of_lt HLt.out, by go_num, HH, BK2, HS, HE1, ⟨fun h => absurd h he⟩⟩
       case measure => rw [hwp]; exact Nat.sub_lt_sub_left (show q < N from HLt.out) (show q < q + 1 from Nat.lt_succ_self q)
      ·have hMb : decide ((k3 : Int) < (M : Int)) = false := decide_eq_false (by omega)
       have hwp := HW1.out
       go_wp2_with fail
       go_roundw
       case rel => exact ⟨q + 1, s, hs, _, _, _, _, _, Nat.succ_le_of_lt HLt.out, by go_num, HH, BK2, HS, HE1, ⟨fun h => absurd h he⟩⟩
       case measure => rw [hwp]; exact Nat.sub_lt_sub_left (show q < N from HLt.out) (show q < q + 1 from Nat.lt_succ_self q)
     subst he
     obtain ⟨rfl, rfl, rfl, hRk, hF, hCk, hEk, hNk, hQk, hXk, hIk⟩ := HE0.out rfl
     have HRk := Aside0.mk hRk
     have HF := Aside0.mk hF
     have HCk := Aside0.mk hCk
     have HEk := Aside0.mk hEk
     have HNk := Aside0.mk hNk
     have HQk := Aside0.mk hQk
     have HXk := Aside0.mk hXk
     have HIk := Aside0.mk hIk
     clear HE0 HE1 hRk hF hCk hEk hNk hQk hXk hIk
     have HO := Aside0.mk (ropen_any HH.out.at2)
     rw [show ((0 : Int) == 0) = true from rfl] at HO
     by_cases hlt3 : k3 < M
     rotate_left
     ·obtain rfl : M = k3 := by omega
      have hMb : decide ((M : Int) < (M : Int)) = false := decide_eq_false (by omega)
      have E0 : Aside0 ((0 : Int) = 0 → (t.1 : Int) = (t.1 : Int) ∧ t.2.1 = t.2.1 ∧ (0 : Int) = 0 ∧ runE (funcStep G fs bs) (9 + 5 * N, L, []) (q + 1) = .ok (t.1, t.2.1, s.2.2 ++ [t.2.2]) ∧ kH.R 46 wk w21.heap.size (fun k => w21.heap.size ≤ k) (.slice (some ⟨bF, 0, none⟩) N cF) hs2 ∧ fsOf hs2 = fs ∧ (∀ i, q + 1 ≤ i → i < N → (hs2.getD i hv0).c = .slice none 0 0) ∧ CodeQ wk w21.heap.size hs2 (s.2.2 ++ [t.2.2]) (q + 1) (.slice none 0 0) ∧ ((s.2.2 ++ [t.2.2]).length = q + 1 ∧ t.1 ≤ bs.length ∧ 0 ≤ t.2.1 ∧ t.2.1 < 1048576)) := ⟨fun _ => ⟨rfl, rfl, rfl, by rw [HStp.out, HStq.out, HRk.out], HF.out, HEk.out, HNk.out, CodeQ.next HQk.out HXk.out HCk.out HIn.out.1, by rw [List.length_append, HIn.out.1]; rfl, HIk.out.2.1, HIk.out.2.2.1, HIk.out.2.2.2⟩⟩
      have hwp := HW1.out
      go_wp2_with fail
      go_roundw
      case rel => exact ⟨q + 1, (t.1, t.2.1, s.2.2 ++ [t.2.2]), hs2, _, _, _, _, _, Nat.succ_le_of_lt HLt.out, by go_num, HH, BK2, HS, ⟨fun h => absurd rfl h⟩, E0⟩
      case measure => rw [hwp]; exact Nat.sub_lt_sub_left (show q < N from HLt.out) (show q < q + 1 from Nat.lt_succ_self q)
     have hwp2 : wrap64 ((k3 : Int) + 1) = (k3 : Int) + 1 := wrap_in (by have := HMr.out; omega) (by have := HMr.out; omega)
     have HW2 := Aside0.mk hwp2
     clear hwp2
     have hwm : wrap64 ((M : Int) - 1) = (M : Int) - 1 := wrap_in (by have := HMr.out; omega) (by have := HMr.out; omega)
     have HLt3 := Aside0.mk hlt3
     have hMb : decide ((k3 : Int) < (M : Int)) = true := decide_eq_true (by omega)
     have HKw : Aside0 (w21.heap.size ≤ wk.heap.size) := ⟨HH.out.sz⟩
     obtain ⟨lb, hlb⟩ : ∃ lb, ((k3 : Int) == (M : Int) - 1) = lb := ⟨_, rfl⟩
     obtain ⟨Aq, cq, hvq⟩ := Kd.R_slice HXk.out
     subst hvq
     rw [HIk.out.1] at HXk HCk HQk
     have HHl2 : Aside0 (hs2.length = N) := ⟨((Kd.R_reads' HF.out).1).symm⟩
     have HHX : Aside0 (∀ k_, (Value.slice Aq k3 cq).ownBlock = some k_ → k_ < wk.heap.size) := ⟨Kd.R_lt HXk.out⟩
     have HIns : Aside0 (∀ W1, Below wk.heap.size wk W1 → Calls Tryd.prog 53 #[.pointer (some ⟨g21, 0, none⟩), .agg #[.int .i64 P, .int .i64 R, .int .i64 V, .slice none 0 0], .int .i64 (M : Int), .bool lb] W1 fun r w' => RdI w W1 W1 g21 g17 G (some ⟨bF, 0, none⟩) N cF A n c 0 (instrR G fs R V (M : Int) bs lb t.1 t.2.1) r w') := ⟨fun W1 hW1 => by
      have h := rdinstr_any (fs := fs) P R V none 0 0 (M : Int) lb bs t.1 (show Rw w W1 W1 g21 g17 G (some ⟨bF, 0, none⟩) fs.length cF t.2.1 0 A n c (t.1 : Int) f 0 from by rw [HFl.out]; exact (HH.out.below hW1).at2) Hn.out HBs.out HBy.out (by rw [Hn.out]; exact HIk.out.2.1) (HH.out.below hW1).bel.size HIk.out.2.2.1 HIk.out.2.2.2 (HEk.out ▸ kH_heads (Kd.R_below HF.out hW1)) (fun ad he => by injection he with he; subst he; exact ⟨HbF.out.1, HbF.out.2.1⟩) (by rw [HFl.out]; have := HNr.out; omega)
      rw [HFl.out] at h
      exact h⟩
     have HStk := Aside0.mk (runE_next HRk.out)
     have HCs : Aside0 (codeStep G fs R V (M : Int) bs k3 t = match instrR G fs R V (M : Int) bs lb t.1 t.2.1 with | .error e => .error e | .ok t2 => .ok (t2.2.1, t2.2.2, t.2.2 ++ [t2.1])) := ⟨by unfold codeStep; rw [hlb]; rfl⟩
     have HIo : Aside0 (∀ x, instrR G fs R V (M : Int) bs lb t.1 t.2.1 = .ok x → x.2.1 ≤ bs.length ∧ 0 ≤ x.2.2 ∧ x.2.2 < 1048576) := ⟨fun x hx => instrR_ok HBy.out ⟨HIk.out.2.2.1, HIk.out.2.2.2⟩ hx⟩
     generalize instrR G fs R V (M : Int) bs lb t.1 t.2.1 = res at HIns HCs HIo
     clear hk3
     go_wp2_with fail
     refine HO.out.mono ?_
     rintro r wx ⟨rfl, rfl⟩
     clear HO hlt3 hMb
     have y0 : wk.cell? ⟨g13, 0, none⟩ = some (.int .i64 P) := (blk_cell BK13.out 0).trans rfl
     have y1 : wk.cell? ⟨g13, 1, none⟩ = some (.int .i64 R) := (blk_cell BK13.out 1).trans rfl
     have y2 : wk.cell? ⟨g13, 2, none⟩ = some (.int .i64 V) := (blk_cell BK13.out 2).trans rfl
     have y3 : wk.cell? ⟨g13, 3, none⟩ = some (.slice none 0 0) := (blk_cell BK13.out 3).trans rfl
     go_wp2_with fail
     refine start_ (n := 16) (S := fun w' => w'.cell? ⟨g13, 0, none⟩ = some (.int .i64 P) ∧ w'.cell? ⟨g13, 1, none⟩ = some (.int .i64 R) ∧ w'.cell? ⟨g13, 2, none⟩ = some (.int .i64 V) ∧ w'.cell? ⟨g13, 3, none⟩ = some (.slice none 0 0) ∧ w'.cell? ⟨bS, q, none⟩ = some (.int .i64 (M : Int))) (ds := [15]) #[false, false, false, false, false, false, false, false, false, false, false, false, false, false, false, false] (by kernel_rfl) rfl rfl ⟨y0, y1, y2, y3, hsz⟩ (fun hHeld => ?_)
     refine with_tabW TAB_25.tab22 TAB_25.bits22 (fun HT_ HW_ => ?_)
     refine pq 0 (some 103) HT_ rfl rfl (fun _ _ _ h => h) ?_
     refine pq 2 (some 105) HT_ rfl rfl (fun _ _ _ h => h) ?_
     refine pq 3 (some 106) HT_ rfl rfl (fun _ _ _ h => h) ?_
     refine pq 4 (some 107) HT_ rfl rfl (fun _ _ _ h => h) ?_
     refine pq 6 (some 109) HT_ rfl rfl (fun _ _ _ h => h) ?_
     refine pq 7 (some 110) HT_ rfl rfl (fun _ _ _ h => h) ?_
     refine pq 8 (some 111) HT_ rfl rfl (fun _ _ _ h => h) ?_
     refine pq 9 (some 112) HT_ rfl rfl (fun _ _ _ h => h) ?_
     refine pt 1 (some 104) (v := ?_) (a' := ?_) rfl rfl (take_ofW HT_.out HW_.out (by kernel_rfl)) (fun _ _ _ h => h) (Or.inl ⟨by rfl, ?_⟩) hHeld ?_ ?_
     rotate_left; (rintro w' ⟨s0, s1, s2, s3, s4⟩; go_simp; with_reducible rfl); rotate_left; (simp only [Act.put, pn, i64_w, i32_w]; rfl)
     refine pt 5 (some 108) (v := ?_) (a' := ?_) rfl rfl (take_ofW HT_.out HW_.out (by kernel_rfl)) (fun _ _ _ h => h) (Or.inl ⟨by rfl, ?_⟩) hHeld ?_ ?_
     rotate_left; (rintro w' ⟨s0, s1, s2, s3, s4⟩; go_simp; with_reducible rfl); rotate_left; (simp only [Act.put, pn, i64_w, i32_w]; rfl)
     refine pt 10 (some 113) (v := ?_) (a' := ?_) rfl rfl (take_ofW HT_.out HW_.out (by kernel_rfl)) (fun _ _ _ h => h) (Or.inl ⟨by rfl, ?_⟩) hHeld ?_ ?_
     rotate_left; (rintro w' ⟨s0, s1, s2, s3, s4⟩; go_simp; with_reducible rfl); rotate_left; (simp only [Act.put, pn, i64_w, i32_w]; rfl)
     refine pq 11 (some 114) HT_ rfl rfl (fun _ _ _ h => h) ?_
     refine pq 12 (some 115) HT_ rfl rfl (fun _ _ _ h => h) ?_
     refine join_ (σ := Value × Nat) 1 #[true, true, true, true, true, true, true, true, true, true, true, true, true, true, true, false] (fun s => [(116, s.1), (15, .pointer (some ⟨s.2, 0, none⟩))]) (fun s w' => AftI w wk.drew g21 g17 G (some ⟨bF, 0, none⟩) N cF A n c 0 res s.1 s.2 w') ?_ ?_
     rotate_left
     ·intro hCont
      refine two_ (i := 13) (j := 14) (Ni := some 116) (Nj := some 15) #[true, true, true, true, true, true, true, true, true, true, true, true, true, true, false, false] #[true, true, true, true, true, true, true, true, true, true, true, true, true, false, true, false] rfl rfl rfl rfl (two_of HT_.out (by kernel_rfl)) (by decide) (by decide) (fun K hK => ?_) (fun K hK => ?_)
      ·skip
       refine goes_ Tryd.func53 (by kernel_rfl) rfl #[.pointer (some ⟨g21, 0, none⟩), .agg #[.int .i64 P, .int .i64 R, .int .i64 V, .slice none 0 0], .int .i64 (M : Int), .bool lb] (by rfl) rfl rfl (by simp only [List.map_toArray, List.map_cons, List.map_nil]; rfl) ?_
       with_reducible refine (HIns.out wk.drew (below_drew (Below.refl _ _))).mono ?_
       rintro e_ wm hRd
       obtain ⟨vx, rfl⟩ := hRd.ret
       refine ⟨_, rfl, ?_⟩
       have HRd := Aside0.mk hRd
       clear hRd
       have ym0 : wm.cell? ⟨g13, 0, none⟩ = some (.int .i64 P) := HRd.out.cell (show World.cell? wk.drew _ = _ from y0) NE13.out.1 NE13.out.2.1
       have ym1 : wm.cell? ⟨g13, 1, none⟩ = some (.int .i64 R) := HRd.out.cell (show World.cell? wk.drew _ = _ from y1) NE13.out.1 NE13.out.2.1
       have ym2 : wm.cell? ⟨g13, 2, none⟩ = some (.int .i64 V) := HRd.out.cell (show World.cell? wk.drew _ = _ from y2) NE13.out.1 NE13.out.2.1
       have ym3 : wm.cell? ⟨g13, 3, none⟩ = some (.slice none 0 0) := HRd.out.cell (show World.cell? wk.drew _ = _ from y3) NE13.out.1 NE13.out.2.1
       have hszm : wm.cell? ⟨bS, q, none⟩ = some (.int .i64 (M : Int)) := HRd.out.cell (show World.cell? wk.drew _ = _ from hsz) HbS.out.1 HbS.out.2
       refine hK.out _ _ ⟨ym0, ym1, ym2, ym3, hszm⟩ (fun hHeld => ?_)
       clear hK K
       refine norm_ (a' := ?_) ?_ ?_
       rotate_left
       ·show Act.put _ (some 116) _ = _
        simp only [Act.put, pn, i64_w, i32_w]
        rfl
       refine one_ (i := 14) (N := some 15) #[true, true, true, true, true, true, true, true, true, true, true, true, true, true, true, false] rfl rfl (one_of HT_.out (by kernel_rfl)) (by decide) (fun K hK => ?_)
       refine value_ (w1 := ?_) (v := ?_) (by rfl) rfl ?_ ?_
       rotate_left 2
       ·go_simp
        constructor
        ·rfl
        ·rfl
       show K _ (World.alloc wm (Obj.cells #[.int .i64 0, .int .i64 0, .int .i64 0, .int .i64 0, .int .i64 0, .slice none 0 0, .slice none 0 0] 50))
       refine hK.out _ _ ⟨pw_cell_below (below_alloc (Below.refl _ _) _) (ym0), pw_cell_below (below_alloc (Below.refl _ _) _) (ym1), pw_cell_below (below_alloc (Below.refl _ _) _) (ym2), pw_cell_below (below_alloc (Below.refl _ _) _) (ym3), pw_cell_below (below_alloc (Below.refl _ _) _) (hszm)⟩ (fun hHeld => ?_)
       clear hK K
       refine norm_ (a' := ?_) ?_ ?_
       rotate_left
       ·show Act.put _ (some 15) _ = _
        simp only [Act.put, pn, i64_w, i32_w]
        rfl
       exact norm_ (by simp only [putAll, Act.put, pn]) (hCont (vx, wm.heap.size) _ (show AftI w wk.drew g21 g17 G (some ⟨bF, 0, none⟩) N cF A n c 0 res vx wm.heap.size (wm.alloc (.cells #[.int .i64 0, .int .i64 0, .int .i64 0, .int .i64 0, .int .i64 0, .slice none 0 0, .slice none 0 0] 50)) from AftI.call HRd.out))
      ·skip
       refine value_ (w1 := ?_) (v := ?_) (by rfl) rfl ?_ ?_
       rotate_left 2
       ·go_simp
        constructor
        ·rfl
        ·rfl
       show K _ (World.alloc wk.drew (Obj.cells #[.int .i64 0, .int .i64 0, .int .i64 0, .int .i64 0, .int .i64 0, .slice none 0 0, .slice none 0 0] 50))
       refine hK.out _ _ ⟨pw_cell_below (below_alloc (Below.refl _ _) _) (show World.cell? wk.drew _ = _ from y0), pw_cell_below (below_alloc (Below.refl _ _) _) (show World.cell? wk.drew _ = _ from y1), pw_cell_below (below_alloc (Below.refl _ _) _) (show World.cell? wk.drew _ = _ from y2), pw_cell_below (below_alloc (Below.refl _ _) _) (show World.cell? wk.drew _ = _ from y3), pw_cell_below (below_alloc (Below.refl _ _) _) (show World.cell? wk.drew _ = _ from hsz)⟩ (fun hHeld => ?_)
       clear hK K
       refine norm_ (a' := ?_) ?_ ?_
       rotate_left
       ·show Act.put _ (some 15) _ = _
        simp only [Act.put, pn, i64_w, i32_w]
        rfl
       refine one_ (i := 13) (N := some 116) #[true, true, true, true, true, true, true, true, true, true, true, true, true, true, true, false] rfl rfl (one_of HT_.out (by kernel_rfl)) (by decide) (fun K hK => ?_)
       refine goes_ Tryd.func53 (by kernel_rfl) rfl #[.pointer (some ⟨g21, 0, none⟩), .agg #[.int .i64 P, .int .i64 R, .int .i64 V, .slice none 0 0], .int .i64 (M : Int), .bool lb] (by rfl) rfl rfl (by simp only [List.map_toArray, List.map_cons, List.map_nil]; rfl) ?_
       with_reducible refine (HIns.out (World.alloc wk.drew (Obj.cells #[.int .i64 0, .int .i64 0, .int .i64 0, .int .i64 0, .int .i64 0, .slice none 0 0, .slice none 0 0] 50)) (below_alloc (below_drew (Below.refl wk.heap.size wk)) _)).mono ?_
       rintro e_ wm hRd
       obtain ⟨vx, rfl⟩ := hRd.ret
       refine ⟨_, rfl, ?_⟩
       have HRd := Aside0.mk hRd
       clear hRd
       have ym0 : wm.cell? ⟨g13, 0, none⟩ = some (.int .i64 P) := HRd.out.cell (pw_cell_below (below_alloc (Below.refl _ _) _) (show World.cell? wk.drew _ = _ from y0)) NE13.out.1 NE13.out.2.1
       have ym1 : wm.cell? ⟨g13, 1, none⟩ = some (.int .i64 R) := HRd.out.cell (pw_cell_below (below_alloc (Below.refl _ _) _) (show World.cell? wk.drew _ = _ from y1)) NE13.out.1 NE13.out.2.1
       have ym2 : wm.cell? ⟨g13, 2, none⟩ = some (.int .i64 V) := HRd.out.cell (pw_cell_below (below_alloc (Below.refl _ _) _) (show World.cell? wk.drew _ = _ from y2)) NE13.out.1 NE13.out.2.1
       have ym3 : wm.cell? ⟨g13, 3, none⟩ = some (.slice none 0 0) := HRd.out.cell (pw_cell_below (below_alloc (Below.refl _ _) _) (show World.cell? wk.drew _ = _ from y3)) NE13.out.1 NE13.out.2.1
       have hszm : wm.cell? ⟨bS, q, none⟩ = some (.int .i64 (M : Int)) := HRd.out.cell (pw_cell_below (below_alloc (Below.refl _ _) _) (show World.cell? wk.drew _ = _ from hsz)) HbS.out.1 HbS.out.2
       refine hK.out _ _ ⟨ym0, ym1, ym2, ym3, hszm⟩ (fun hHeld => ?_)
       clear hK K
       refine norm_ (a' := ?_) ?_ ?_
       rotate_left
       ·show Act.put _ (some 116) _ = _
        simp only [Act.put, pn, i64_w, i32_w]
        rfl
       exact norm_ (by simp only [putAll, Act.put, pn]) (hCont (vx, wk.heap.size) _ (show AftI w wk.drew g21 g17 G (some ⟨bF, 0, none⟩) N cF A n c 0 res vx wk.heap.size wm from AftI.alloc HH.out.drew.at2 HRd.out))
     rintro ⟨vx, g15⟩ wm hAf
     replace hAf : AftI w wk.drew g21 g17 G (some ⟨bF, 0, none⟩) N cF A n c 0 res vx g15 wm := hAf
     obtain ⟨x, v5, v6, e2, a2, f2, o2, L4, rfl, h5, h6, hR, hE0, hE1, hBZ, hbz⟩ := hAf
     obtain ⟨A5, c5, rfl⟩ := Kd.R_slice h5
     obtain ⟨A6, c6, rfl⟩ := Kd.R_slice h6
     replace hR := HH.out.at2.drew.trans hR
     have H5 := Aside0.mk h5
     have H6 := Aside0.mk h6
     have HE0 := Aside0.mk hE0
     have HE1 := Aside0.mk hE1
     have HBZ : Aside0 (wm.heap[g15]? = some (.cells #[.int .i64 0, .int .i64 0, .int .i64 0, .int .i64 0, .int .i64 0, .slice none 0 0, .slice none 0 0] 50 (0, 0))) := ⟨hBZ⟩
     have HG15 : Aside0 (wk.heap.size ≤ g15) := ⟨hbz⟩
     have ym0 : wm.cell? ⟨g13, 0, none⟩ = some (.int .i64 P) := hR.cell (y0) NE13.out.1 NE13.out.2.1
     have ym1 : wm.cell? ⟨g13, 1, none⟩ = some (.int .i64 R) := hR.cell (y1) NE13.out.1 NE13.out.2.1
     have ym2 : wm.cell? ⟨g13, 2, none⟩ = some (.int .i64 V) := hR.cell (y2) NE13.out.1 NE13.out.2.1
     have ym3 : wm.cell? ⟨g13, 3, none⟩ = some (.slice none 0 0) := hR.cell (y3) NE13.out.1 NE13.out.2.1
     have hszm : wm.cell? ⟨bS, q, none⟩ = some (.int .i64 (M : Int)) := hR.cell (hsz) HbS.out.1 HbS.out.2
     have hHeld : wm.cell? ⟨g13, 0, none⟩ = some (.int .i64 P) ∧ wm.cell? ⟨g13, 1, none⟩ = some (.int .i64 R) ∧ wm.cell? ⟨g13, 2, none⟩ = some (.int .i64 V) ∧ wm.cell? ⟨g13, 3, none⟩ = some (.slice none 0 0) ∧ wm.cell? ⟨bS, q, none⟩ = some (.int .i64 (M : Int)) := ⟨ym0, ym1, ym2, ym3, hszm⟩
     have HR := Aside0.mk hR
     clear h5 h6 hE0 hE1 hBZ hbz hR
     refine norm_ (a' := ?_) ?_ ?_
     rotate_left
     ·simp only [putAll, Act.put, pn]
      rfl
     refine last_ (i := 15) (N := none) #[true, true, true, true, true, true, true, true, true, true, true, true, true, true, true, true] rfl rfl (one_of HT_.out (by kernel_rfl)) (by decide) (fun K hK => ?_)
     have kz0 : World.cell? wm ⟨g15, 0, none⟩ = some (.int .i64 0) := (blk_cell HBZ.out 0).trans rfl
     have kz1 : World.cell? wm ⟨g15, 1, none⟩ = some (.int .i64 0) := (blk_cell HBZ.out 1).trans rfl
     have kz2 : World.cell? wm ⟨g15, 2, none⟩ = some (.int .i64 0) := (blk_cell HBZ.out 2).trans rfl
     have kz3 : World.cell? wm ⟨g15, 3, none⟩ = some (.int .i64 0) := (blk_cell HBZ.out 3).trans rfl
     have kz4 : World.cell? wm ⟨g15, 4, none⟩ = some (.int .i64 0) := (blk_cell HBZ.out 4).trans rfl
     have kz5 : World.cell? wm ⟨g15, 5, none⟩ = some (.slice none 0 0) := (blk_cell HBZ.out 5).trans rfl
     have kz6 : World.cell? wm ⟨g15, 6, none⟩ = some (.slice none 0 0) := (blk_cell HBZ.out 6).trans rfl
     have qz0 := blk_frozen HBZ.out 0
     have qz1 := blk_frozen HBZ.out 1
     have qz2 := blk_frozen HBZ.out 2
     have qz3 := blk_frozen HBZ.out 3
     have qz4 := blk_frozen HBZ.out 4
     have qz5 := blk_frozen HBZ.out 5
     have qz6 := blk_frozen HBZ.out 6
     refine skip_ (w1 := ?_) (by rfl) rfl ?_ ?_
     rotate_left
     ·go_simp
      rfl
     clear kz0 qz0 kz1 qz1 kz2 qz2 kz3 qz3 kz4 qz4 kz5 qz5 kz6 qz6
     refine hK.out _ _ ?_
     clear hK K
     refine done_ (done_of HT_.out (by kernel_rfl)) ?_
     clear hHeld HT_ HW_ y0 y1 y2 y3 hsz hwm q0 q1 HIns hlb ym0 ym1 ym2 ym3 hszm
     have HNb : Aside0 (g15 ≠ g21 ∧ g15 ≠ g17 ∧ w21.heap.size ≤ g15 ∧ w.heap.size ≤ g15 ∧ g2 ≠ g15 ∧ g13 ≠ g15) := ⟨by have := HG15.out; have := HKw.out; have := HGi.out; have := blk_lt BK13.out; omega⟩
     have H2 : Aside0 (Rw w w21 (World.setCell (World.setCell (World.setCell (World.setCell (World.setCell (World.setCell (World.setCell wm ⟨g15, 0, none⟩ (.int .i64 x.f0)) ⟨g15, 1, none⟩ (.int .i64 x.f1)) ⟨g15, 2, none⟩ (.int .i64 x.f2)) ⟨g15, 3, none⟩ (.int .i64 x.f3)) ⟨g15, 4, none⟩ (.int .i64 x.f4)) ⟨g15, 5, none⟩ (.slice A5 x.f5.length c5)) ⟨g15, 6, none⟩ (.slice A6 x.f6.length c6)) g21 g17 G (some ⟨bF, 0, none⟩) N cF L4 e2 A n c a2 f2 o2) := ⟨(HH.out.trans HR.out).set7 g15 (.int .i64 x.f0) (.int .i64 x.f1) (.int .i64 x.f2) (.int .i64 x.f3) (.int .i64 x.f4) (.slice A5 x.f5.length c5) (.slice A6 x.f6.length c6) HNb.out.1 HNb.out.2.1 HNb.out.2.2.1 HNb.out.2.2.2.1⟩
     have B2 : Aside0 ((World.heap (World.setCell (World.setCell (World.setCell (World.setCell (World.setCell (World.setCell (World.setCell wm ⟨g15, 0, none⟩ (.int .i64 x.f0)) ⟨g15, 1, none⟩ (.int .i64 x.f1)) ⟨g15, 2, none⟩ (.int .i64 x.f2)) ⟨g15, 3, none⟩ (.int .i64 x.f3)) ⟨g15, 4, none⟩ (.int .i64 x.f4)) ⟨g15, 5, none⟩ (.slice A5 x.f5.length c5)) ⟨g15, 6, none⟩ (.slice A6 x.f6.length c6)))[g2]? = some (.cells #[.int .i64 0, .slice none 0 0] 24 (0, 0))) := ⟨(set7_far wm g15 (.int .i64 x.f0) (.int .i64 x.f1) (.int .i64 x.f2) (.int .i64 x.f3) (.int .i64 x.f4) (.slice A5 x.f5.length c5) (.slice A6 x.f6.length c6) g2 HNb.out.2.2.2.2.1).trans (HH.out.at2.gb BK2.out HR.out NE.out.2.1 NE.out.2.2)⟩
     have B13 : Aside0 ((World.heap (World.setCell (World.setCell (World.setCell (World.setCell (World.setCell (World.setCell (World.setCell wm ⟨g15, 0, none⟩ (.int .i64 x.f0)) ⟨g15, 1, none⟩ (.int .i64 x.f1)) ⟨g15, 2, none⟩ (.int .i64 x.f2)) ⟨g15, 3, none⟩ (.int .i64 x.f3)) ⟨g15, 4, none⟩ (.int .i64 x.f4)) ⟨g15, 5, none⟩ (.slice A5 x.f5.length c5)) ⟨g15, 6, none⟩ (.slice A6 x.f6.length c6)))[g13]? = some (.cells #[.int .i64 P, .int .i64 R, .int .i64 V, .slice none 0 0] 46 (0, 0))) := ⟨(set7_far wm g15 (.int .i64 x.f0) (.int .i64 x.f1) (.int .i64 x.f2) (.int .i64 x.f3) (.int .i64 x.f4) (.slice A5 x.f5.length c5) (.slice A6 x.f6.length c6) g13 HNb.out.2.2.2.2.2).trans (HH.out.at2.gb BK13.out HR.out NE13.out.1 NE13.out.2.1)⟩
     have BK15 : Aside0 ((World.heap (World.setCell (World.setCell (World.setCell (World.setCell (World.setCell (World.setCell (World.setCell wm ⟨g15, 0, none⟩ (.int .i64 x.f0)) ⟨g15, 1, none⟩ (.int .i64 x.f1)) ⟨g15, 2, none⟩ (.int .i64 x.f2)) ⟨g15, 3, none⟩ (.int .i64 x.f3)) ⟨g15, 4, none⟩ (.int .i64 x.f4)) ⟨g15, 5, none⟩ (.slice A5 x.f5.length c5)) ⟨g15, 6, none⟩ (.slice A6 x.f6.length c6)))[g15]? = some (.cells #[.int .i64 x.f0, .int .i64 x.f1, .int .i64 x.f2, .int .i64 x.f3, .int .i64 x.f4, .slice A5 x.f5.length c5, .slice A6 x.f6.length c6] 50 (0, 0))) := ⟨set7_at HBZ.out (.int .i64 x.f0) (.int .i64 x.f1) (.int .i64 x.f2) (.int .i64 x.f3) (.int .i64 x.f4) (.slice A5 x.f5.length c5) (.slice A6 x.f6.length c6)⟩
     have F2 : Aside0 (kH.R 46 (World.setCell (World.setCell (World.setCell (World.setCell (World.setCell (World.setCell (World.setCell wm ⟨g15, 0, none⟩ (.int .i64 x.f0)) ⟨g15, 1, none⟩ (.int .i64 x.f1)) ⟨g15, 2, none⟩ (.int .i64 x.f2)) ⟨g15, 3, none⟩ (.int .i64 x.f3)) ⟨g15, 4, none⟩ (.int .i64 x.f4)) ⟨g15, 5, none⟩ (.slice A5 x.f5.length c5)) ⟨g15, 6, none⟩ (.slice A6 x.f6.length c6)) w21.heap.size (fun k => w21.heap.size ≤ k) (.slice (some ⟨bF, 0, none⟩) N cF) hs2) := ⟨Kd.R_rw7 HF.out HR.out (fun k hk => by have := HGi.out; omega) HG15.out (.int .i64 x.f0) (.int .i64 x.f1) (.int .i64 x.f2) (.int .i64 x.f3) (.int .i64 x.f4) (.slice A5 x.f5.length c5) (.slice A6 x.f6.length c6)⟩
     have S2 : Aside0 (kI.R 3 (World.setCell (World.setCell (World.setCell (World.setCell (World.setCell (World.setCell (World.setCell wm ⟨g15, 0, none⟩ (.int .i64 x.f0)) ⟨g15, 1, none⟩ (.int .i64 x.f1)) ⟨g15, 2, none⟩ (.int .i64 x.f2)) ⟨g15, 3, none⟩ (.int .i64 x.f3)) ⟨g15, 4, none⟩ (.int .i64 x.f4)) ⟨g15, 5, none⟩ (.slice A5 x.f5.length c5)) ⟨g15, 6, none⟩ (.slice A6 x.f6.length c6)) w21.heap.size (fun k => w21.heap.size ≤ k) (.slice (some ⟨bS, 0, none⟩) N cS) (szOf bs N)) := ⟨Kd.R_rw7 HS.out HR.out (fun k hk => by have := HGi.out; omega) HG15.out (.int .i64 x.f0) (.int .i64 x.f1) (.int .i64 x.f2) (.int .i64 x.f3) (.int .i64 x.f4) (.slice A5 x.f5.length c5) (.slice A6 x.f6.length c6)⟩
     have Q2 : Aside0 (CodeQ (World.setCell (World.setCell (World.setCell (World.setCell (World.setCell (World.setCell (World.setCell wm ⟨g15, 0, none⟩ (.int .i64 x.f0)) ⟨g15, 1, none⟩ (.int .i64 x.f1)) ⟨g15, 2, none⟩ (.int .i64 x.f2)) ⟨g15, 3, none⟩ (.int .i64 x.f3)) ⟨g15, 4, none⟩ (.int .i64 x.f4)) ⟨g15, 5, none⟩ (.slice A5 x.f5.length c5)) ⟨g15, 6, none⟩ (.slice A6 x.f6.length c6)) w21.heap.size hs2 s.2.2 q (.slice Aq k3 cq)) := ⟨fun i hi => Kd.R_rw7 (HQk.out i hi) HR.out (fun k hk => by have := HGi.out; have := hk.1; omega) HG15.out (.int .i64 x.f0) (.int .i64 x.f1) (.int .i64 x.f2) (.int .i64 x.f3) (.int .i64 x.f4) (.slice A5 x.f5.length c5) (.slice A6 x.f6.length c6)⟩
     have X2 : Aside0 (k50.R 50 (World.setCell (World.setCell (World.setCell (World.setCell (World.setCell (World.setCell (World.setCell wm ⟨g15, 0, none⟩ (.int .i64 x.f0)) ⟨g15, 1, none⟩ (.int .i64 x.f1)) ⟨g15, 2, none⟩ (.int .i64 x.f2)) ⟨g15, 3, none⟩ (.int .i64 x.f3)) ⟨g15, 4, none⟩ (.int .i64 x.f4)) ⟨g15, 5, none⟩ (.slice A5 x.f5.length c5)) ⟨g15, 6, none⟩ (.slice A6 x.f6.length c6)) w21.heap.size (fun k => w21.heap.size ≤ k) (.slice Aq k3 cq) t.2.2) := ⟨Kd.R_rw7 HXk.out HR.out (fun k hk => by have := HGi.out; omega) HG15.out (.int .i64 x.f0) (.int .i64 x.f1) (.int .i64 x.f2) (.int .i64 x.f3) (.int .i64 x.f4) (.slice A5 x.f5.length c5) (.slice A6 x.f6.length c6)⟩
     have H52 : Aside0 (kI.R 3 (World.setCell (World.setCell (World.setCell (World.setCell (World.setCell (World.setCell (World.setCell wm ⟨g15, 0, none⟩ (.int .i64 x.f0)) ⟨g15, 1, none⟩ (.int .i64 x.f1)) ⟨g15, 2, none⟩ (.int .i64 x.f2)) ⟨g15, 3, none⟩ (.int .i64 x.f3)) ⟨g15, 4, none⟩ (.int .i64 x.f4)) ⟨g15, 5, none⟩ (.slice A5 x.f5.length c5)) ⟨g15, 6, none⟩ (.slice A6 x.f6.length c6)) wk.heap.size (fun k => wk.heap.size ≤ k) (.slice A5 x.f5.length c5) x.f5) := ⟨Kd.R_set7 H5.out HBZ.out (.int .i64 x.f0) (.int .i64 x.f1) (.int .i64 x.f2) (.int .i64 x.f3) (.int .i64 x.f4) (.slice A5 x.f5.length c5) (.slice A6 x.f6.length c6)⟩
     have H62 : Aside0 (kI.R 3 (World.setCell (World.setCell (World.setCell (World.setCell (World.setCell (World.setCell (World.setCell wm ⟨g15, 0, none⟩ (.int .i64 x.f0)) ⟨g15, 1, none⟩ (.int .i64 x.f1)) ⟨g15, 2, none⟩ (.int .i64 x.f2)) ⟨g15, 3, none⟩ (.int .i64 x.f3)) ⟨g15, 4, none⟩ (.int .i64 x.f4)) ⟨g15, 5, none⟩ (.slice A5 x.f5.length c5)) ⟨g15, 6, none⟩ (.slice A6 x.f6.length c6)) wk.heap.size (fun k => wk.heap.size ≤ k) (.slice A6 x.f6.length c6) x.f6) := ⟨Kd.R_set7 H6.out HBZ.out (.int .i64 x.f0) (.int .i64 x.f1) (.int .i64 x.f2) (.int .i64 x.f3) (.int .i64 x.f4) (.slice A5 x.f5.length c5) (.slice A6 x.f6.length c6)⟩
     obtain ⟨wv, hwv⟩ : ∃ wv, wv = (World.setCell (World.setCell (World.setCell (World.setCell (World.setCell (World.setCell (World.setCell wm ⟨g15, 0, none⟩ (.int .i64 x.f0)) ⟨g15, 1, none⟩ (.int .i64 x.f1)) ⟨g15, 2, none⟩ (.int .i64 x.f2)) ⟨g15, 3, none⟩ (.int .i64 x.f3)) ⟨g15, 4, none⟩ (.int .i64 x.f4)) ⟨g15, 5, none⟩ (.slice A5 x.f5.length c5)) ⟨g15, 6, none⟩ (.slice A6 x.f6.length c6)) := ⟨_, rfl⟩
     rw [← hwv] at BK15 H2 B2 B13 F2 S2 Q2 X2 H52 H62 ⊢
     clear hwv HR HBZ HH BK2 BK13 HF HS HQk HXk H5 H6
     have HH := H2
     have BK2 := B2
     have BK13 := B13
     have HF := F2
     have HS := S2
     have HQk := Q2
     have HXk := X2
     have H5 := H52
     have H6 := H62
     clear H2 B2 B13 F2 S2 Q2 X2 H52 H62
     have q0 : (0 : Int) ≤ (q : Int) := Int.natCast_nonneg q
     have q1 : (q : Int) < (N : Int) := Int.ofNat_lt.mpr HLt.out
     have g1 := HH.out.g1
     have hs0 : wv.cell? ⟨bF, q * 4 + 3, none⟩ = some (.slice Aq k3 cq) := by have h := (kH_at HF.out q HLt.out).2.2.2.1; rwa [HCk.out] at h
     have y0 : wv.cell? ⟨g15, 0, none⟩ = some (.int .i64 x.f0) := (blk_cell BK15.out 0).trans rfl
     have y1 : wv.cell? ⟨g15, 1, none⟩ = some (.int .i64 x.f1) := (blk_cell BK15.out 1).trans rfl
     have y2 : wv.cell? ⟨g15, 2, none⟩ = some (.int .i64 x.f2) := (blk_cell BK15.out 2).trans rfl
     have y3 : wv.cell? ⟨g15, 3, none⟩ = some (.int .i64 x.f3) := (blk_cell BK15.out 3).trans rfl
     have y4 : wv.cell? ⟨g15, 4, none⟩ = some (.int .i64 x.f4) := (blk_cell BK15.out 4).trans rfl
     have y5 : wv.cell? ⟨g15, 5, none⟩ = some (.slice A5 x.f5.length c5) := (blk_cell BK15.out 5).trans rfl
     have y6 : wv.cell? ⟨g15, 6, none⟩ = some (.slice A6 x.f6.length c6) := (blk_cell BK15.out 6).trans rfl
     go_wp2_with fail
     refine start_ (n := 21) (S := fun w' => w'.cell? ⟨g17, 1, none⟩ = some (.slice (some ⟨bF, 0, none⟩) N cF) ∧ w'.cell? ⟨bF, q * 4 + 3, none⟩ = some (.slice Aq k3 cq) ∧ w'.cell? ⟨g15, 0, none⟩ = some (.int .i64 x.f0) ∧ w'.cell? ⟨g15, 1, none⟩ = some (.int .i64 x.f1) ∧ w'.cell? ⟨g15, 2, none⟩ = some (.int .i64 x.f2) ∧ w'.cell? ⟨g15, 3, none⟩ = some (.int .i64 x.f3) ∧ w'.cell? ⟨g15, 4, none⟩ = some (.int .i64 x.f4) ∧ w'.cell? ⟨g15, 5, none⟩ = some (.slice A5 x.f5.length c5) ∧ w'.cell? ⟨g15, 6, none⟩ = some (.slice A6 x.f6.length c6)) (ds := [20]) #[false, false, false, false, false, false, false, false, false, false, false, false, false, false, false, false, false, false, false, false, false] (by kernel_rfl) rfl rfl ⟨g1, hs0, y0, y1, y2, y3, y4, y5, y6⟩ (fun hHeld => ?_)
     refine with_tabW TAB_25.tab23 TAB_25.bits23 (fun HT_ HW_ => ?_)
     refine pq 0 (some 117) HT_ rfl rfl (fun _ _ _ h => h) ?_
     refine pq 1 (some 118) HT_ rfl rfl (fun _ _ _ h => h) ?_
     refine pq 2 (some 119) HT_ rfl rfl (fun _ _ _ h => h) ?_
     refine pq 3 (some 120) HT_ rfl rfl (fun _ _ _ h => h) ?_
     refine pq 5 (some 122) HT_ rfl rfl (fun _ _ _ h => h) ?_
     refine pq 6 (some 123) HT_ rfl rfl (fun _ _ _ h => h) ?_
     refine pq 7 (some 124) HT_ rfl rfl (fun _ _ _ h => h) ?_
     refine pq 8 (some 125) HT_ rfl rfl (fun _ _ _ h => h) ?_
     refine pq 9 (some 126) HT_ rfl rfl (fun _ _ _ h => h) ?_
     refine pq 11 (some 128) HT_ rfl rfl (fun _ _ _ h => h) ?_
     refine pt 4 (some 121) (v := ?_) (a' := ?_) rfl rfl (take_ofW HT_.out HW_.out (by kernel_rfl)) (fun _ _ _ h => h) (Or.inl ⟨by rfl, ?_⟩) hHeld ?_ ?_
     rotate_left; (rintro w' ⟨s0, s1, s2, s3, s4, s5, s6, s7, s8⟩; go_simp; with_reducible rfl); rotate_left; (simp only [Act.put, pn, i64_w, i32_w]; rfl)
     refine pt 10 (some 127) (v := ?_) (a' := ?_) rfl rfl (take_ofW HT_.out HW_.out (by kernel_rfl)) (fun _ _ _ h => h) (Or.inl ⟨by rfl, ?_⟩) hHeld ?_ ?_
     rotate_left; (rintro w' ⟨s0, s1, s2, s3, s4, s5, s6, s7, s8⟩; go_simp; with_reducible rfl); rotate_left; (simp only [Act.put, pn, i64_w, i32_w]; rfl)
     refine pq 12 (some 129) HT_ rfl rfl (fun _ _ _ h => h) ?_
     refine pq 13 (some 130) HT_ rfl rfl (fun _ _ _ h => h) ?_
     refine pt 14 (some 131) (v := ?_) (a' := ?_) rfl rfl (take_ofW HT_.out HW_.out (by kernel_rfl)) (fun _ _ _ h => h) (Or.inl ⟨by rfl, ?_⟩) hHeld ?_ ?_
     rotate_left; (rintro w' ⟨s0, s1, s2, s3, s4, s5, s6, s7, s8⟩; go_simp; with_reducible rfl); rotate_left; (simp only [Act.put, pn, i64_w, i32_w]; rfl)
     refine pt 15 (some 132) (v := ?_) (a' := ?_) rfl rfl (take_ofW HT_.out HW_.out (by kernel_rfl)) (fun _ _ _ h => h) (Or.inl ⟨by rfl, ?_⟩) hHeld ?_ ?_
     rotate_left; (rintro w' ⟨s0, s1, s2, s3, s4, s5, s6, s7, s8⟩; go_simp; with_reducible rfl); rotate_left; (simp only [Act.put, pn, i64_w, i32_w]; rfl)
     refine one_ (i := 16) (N := some 133) #[true, true, true, true, true, true, true, true, true, true, true, true, true, true, true, true, true, false, false, false, false] rfl rfl (one_of HT_.out (by kernel_rfl)) (by decide) (fun K hK => ?_)
     refine value_ (w1 := ?_) (v := ?_) (by rfl) rfl ?_ ?_
     rotate_left 2
     ·go_simp
      constructor
      ·rfl
      ·rfl
     show K _ (World.alloc wv.drew (Obj.cells #[.int .i64 x.f0, .int .i64 x.f1, .int .i64 x.f2, .int .i64 x.f3, .int .i64 x.f4, .slice A5 x.f5.length c5, .slice A6 x.f6.length c6] 50))
     refine hK.out _ _ ⟨pw_cell_below (below_alloc (Below.refl _ _) _) g1, pw_cell_below (below_alloc (Below.refl _ _) _) hs0, pw_cell_below (below_alloc (Below.refl _ _) _) y0, pw_cell_below (below_alloc (Below.refl _ _) _) y1, pw_cell_below (below_alloc (Below.refl _ _) _) y2, pw_cell_below (below_alloc (Below.refl _ _) _) y3, pw_cell_below (below_alloc (Below.refl _ _) _) y4, pw_cell_below (below_alloc (Below.refl _ _) _) y5, pw_cell_below (below_alloc (Below.refl _ _) _) y6⟩ (fun hHeld => ?_)
     clear hK K
     refine norm_ (a' := ?_) ?_ ?_
     rotate_left
     ·show Act.put _ (some 133) _ = _
      simp only [Act.put, pn, i64_w, i32_w]
      rfl
     refine one_ (i := 17) (N := some 134) #[true, true, true, true, true, true, true, true, true, true, true, true, true, true, true, true, true, true, false, false, false] rfl rfl (one_of HT_.out (by kernel_rfl)) (by decide) (fun K hK => ?_)
     refine Kd.R_append_step k50 (w0 := wv.drew) w21.heap.size (by rfl) (.tmp 131) (.tmp 133) 44 50 (.agg #[.int .i64 0, .int .i64 0, .int .i64 0, .int .i64 0, .int .i64 0, .slice none 0 0, .slice none 0 0]) 88 (by rfl) Tryd.underlying44 info50 (by rfl) (by decide) (by omega) (.slice Aq k3 cq) t.2.2 x [.int .i64 x.f0, .int .i64 x.f1, .int .i64 x.f2, .int .i64 x.f3, .int .i64 x.f4, .slice A5 x.f5.length c5, .slice A6 x.f6.length c6] (fun k => w21.heap.size ≤ k) (fun k => wk.heap.size ≤ k) (by rfl) (by rfl) ?aP ?aK ?aF ?aO ?aB ?aS ?aL ?_
     case aP => exact k50_mkM wv.drew w21.heap.size (fun k => wk.heap.size ≤ k) x (Kd.R_drew (Kd.R_lower H5.out HKw.out)) (Kd.R_drew (Kd.R_lower H6.out HKw.out))
     case aK => exact fun k hk => ⟨Nat.le_trans HKw.out hk, fun e => by have := HHX.out k e.symm; omega⟩
     case aF => exact fun k hk => Nat.le_trans HH.out.sz hk
     case aO => exact Kd.R_drew HXk.out
     case aB => exact Below.refl _ _
     case aS => exact HH.out.sz
     case aL => rw [HIk.out.1]; have := HLt3.out; have := HMr.out; omega
     intro v7 w7 ho hb hgr hat
     have H2 := Aside0.mk (HH.out.drew.grow (Kd.R_drew HXk.out) (by decide) (by decide) hgr hb ⟨HGi.out.1, HGi.out.2.1⟩)
     have B2 := Aside0.mk (blk_grown (show wv.drew.heap[g2]? = _ from BK2.out) hgr (Kd.R_ne (Kd.R_drew HXk.out) (show wv.drew.heap[g2]? = _ from BK2.out) (by decide)))
     have B13 := Aside0.mk (blk_grown (show wv.drew.heap[g13]? = _ from BK13.out) hgr (Kd.R_ne (Kd.R_drew HXk.out) (show wv.drew.heap[g13]? = _ from BK13.out) (by decide)))
     have B15 := Aside0.mk (blk_grown (show wv.drew.heap[g15]? = _ from BK15.out) hgr (fun e => by have := HHX.out g15 e.symm; have := HG15.out; omega))
     have HT := KeepT.grown (ts := [50]) (g := g17) (Kd.R_drew HXk.out) (by simp) hgr
     have FF := Aside0.mk (HT.row (Kd.R_drew HF.out) (by decide) (fun k hk => by have := HGi.out; omega))
     have FS := Aside0.mk (HT.row (Kd.R_drew HS.out) (by decide) (fun k hk => by have := HGi.out; omega))
     have FQ := Aside0.mk ((HQk.out.below (below_drew (Below.refl _ _))).after hgr hat)
     obtain ⟨A7, c7, rfl⟩ := Kd.R_slice ho
     have HLl : Aside0 ((t.2.2 ++ [x]).length = k3 + 1) := ⟨by rw [List.length_append, HIk.out.1]; rfl⟩
     rw [HLl.out] at ho FQ ⊢
     have FR := Aside0.mk ho
     have hs7 : w7.cell? ⟨bF, q * 4 + 3, none⟩ = some (.slice Aq k3 cq) := by have h := (kH_at FF.out q HLt.out).2.2.2.1; rwa [HCk.out] at h
     clear ho hb hgr hat HT
     refine hK.out _ _ ⟨H2.out.g1, hs7, (blk_cell B15.out 0).trans rfl, (blk_cell B15.out 1).trans rfl, (blk_cell B15.out 2).trans rfl, (blk_cell B15.out 3).trans rfl, (blk_cell B15.out 4).trans rfl, (blk_cell B15.out 5).trans rfl, (blk_cell B15.out 6).trans rfl⟩ (fun hHeld => ?_)
     clear hK K
     refine norm_ (a' := ?_) ?_ ?_
     rotate_left
     ·show Act.put _ (some 134) _ = _
      simp only [Act.put, pn, i64_w, i32_w]
      rfl
     refine pq 18 (some 135) HT_ rfl rfl (fun _ _ _ h => h) ?_
     refine pq 19 (some 136) HT_ rfl rfl (fun _ _ _ h => h) ?_
     refine last_ (i := 20) (N := none) #[true, true, true, true, true, true, true, true, true, true, true, true, true, true, true, true, true, true, true, true, true] rfl rfl (one_of HT_.out (by kernel_rfl)) (by decide) (fun K hK => ?_)
     have hfz := (kH_at FF.out q HLt.out).2.2.2.2
     refine skip_ (w1 := ?_) (by rfl) rfl ?_ ?_
     rotate_left
     ·go_simp
      rfl
     clear hfz
     refine hK.out _ _ ?_
     clear hK K
     refine done_ (done_of HT_.out (by kernel_rfl)) ?_
     clear hHeld HT_ HW_ g1 hs0 hs7 q0 q1 y0 y1 y2 y3 y4 y5 y6
     have H46 : ∃ ds, w7.heap[bF]? = some (Obj.cells ds 46 (0, 0)) := Kd.R_typed FF.out bF (by simp [Value.ownBlock])
     obtain ⟨ds, hds⟩ := H46
     have HHl3 : Aside0 (q < hs2.length) := ⟨by rw [HHl2.out]; exact HLt.out⟩
     obtain ⟨hv, hhv⟩ : ∃ hv : HV, hv = ⟨(hs2.getD q hv0).P, (hs2.getD q hv0).R, (hs2.getD q hv0).V, .slice A7 (k3 + 1) c7, rfl⟩ := ⟨_, rfl⟩
     have HH8 := Aside0.mk (H2.out.other bF (q * 4 + 3) (.slice A7 (k3 + 1) c7) HbF.out.1 HbF.out.2.1 HbF.out.2.2.2.1 HbF.out.2.2.2.2)
     have B28 := Aside0.mk ((Below.heap_setCell w7 ⟨bF, q * 4 + 3, none⟩ (.slice A7 (k3 + 1) c7) g2 (fun e => HbF.out.2.2.1 e.symm)).trans B2.out)
     have B138 := Aside0.mk ((Below.heap_setCell w7 ⟨bF, q * 4 + 3, none⟩ (.slice A7 (k3 + 1) c7) g13 NE13.out.2.2.1).trans B13.out)
     have HF8 : Aside0 (kH.R 46 (w7.setCell ⟨bF, q * 4 + 3, none⟩ (.slice A7 (k3 + 1) c7)) w21.heap.size (fun k => w21.heap.size ≤ k) (.slice (some ⟨bF, 0, none⟩) N cF) (hs2.set q hv)) := ⟨by rw [hhv]; exact kH_set FF.out q HLt.out _ rfl⟩
     have HC8 : Aside0 (((hs2.set q hv).getD q hv0).c = .slice A7 (k3 + 1) c7) := ⟨by rw [set_getD_self hs2 q hv HHl3.out, hhv]⟩
     have HE8 : Aside0 (fsOf (hs2.set q hv) = fs) := ⟨by rw [hhv]; exact (fsOf_set hs2 q (.slice A7 (k3 + 1) c7) rfl).trans HEk.out⟩
     have HN8 : Aside0 (∀ i, q + 1 ≤ i → i < N → ((hs2.set q hv).getD i hv0).c = .slice none 0 0) := ⟨fun i h1 h2 => by rw [set_getD hs2 q i hv (by omega)]; exact HNk.out i h1 h2⟩
     have HQ8 : Aside0 (CodeQ (w7.setCell ⟨bF, q * 4 + 3, none⟩ (.slice A7 (k3 + 1) c7)) w21.heap.size (hs2.set q hv) s.2.2 q (.slice A7 (k3 + 1) c7)) := ⟨CodeQ.put (CodeQ.set FQ.out hds (by decide)) q (Nat.le_refl q)⟩
     have HX8 : Aside0 (k50.R 50 (w7.setCell ⟨bF, q * 4 + 3, none⟩ (.slice A7 (k3 + 1) c7)) w21.heap.size (fun k => w21.heap.size ≤ k) (.slice A7 (k3 + 1) c7) (t.2.2 ++ [x])) := ⟨Kd.R_set FR.out hds (by decide) _ _⟩
     have HS8 : Aside0 (kI.R 3 (w7.setCell ⟨bF, q * 4 + 3, none⟩ (.slice A7 (k3 + 1) c7)) w21.heap.size (fun k => w21.heap.size ≤ k) (.slice (some ⟨bS, 0, none⟩) N cS) (szOf bs N)) := ⟨Kd.R_set FS.out hds (by decide) _ _⟩
     obtain ⟨w8, hw8⟩ : ∃ w8, w8 = (w7.setCell ⟨bF, q * 4 + 3, none⟩ (.slice A7 (k3 + 1) c7)) := ⟨_, rfl⟩
     rw [← hw8] at HH8 B28 B138 HF8 HQ8 HX8 HS8 ⊢
     clear hw8 H2 B2 B13 B15 FF FS FQ FR hds hhv HF HS HQk HXk HH BK2 BK13 BK15 H5 H6
     have E1 : Aside0 (e2 ≠ 0 → decR bs = .error (e2, o2)) := ⟨fun h => by
      have hc : runE (codeStep G fs R V (M : Int) bs) (s.1, s.2.1, []) (k3 + 1) = .error (e2, o2) := by rw [HStk.out, HCs.out, HE1.out h]
      have hf := func_bad1 (k := k3 + 1) HRf.out (by rw [← HMv.out]; have := HLt3.out; omega) (by rw [← HMv.out, ← HAt.out.2.1, ← HAt.out.2.2]; exact hc)
      exact HOk.out.2.2.func_bad HOk.out.2.1 HRun.out (Nat.succ_le_of_lt HLt.out) (by rw [← HOk.out.1, ← HFs.out]; exact hf)⟩
     have E0 : Aside0 (e2 = 0 → a2 = ((a2.toNat : Nat) : Int) ∧ L4 = L4 ∧ o2 = 0 ∧ runE (codeStep G fs R V (M : Int) bs) (s.1, s.2.1, []) (k3 + 1) = .ok (a2.toNat, L4, t.2.2 ++ [x]) ∧ kH.R 46 w8 w21.heap.size (fun k => w21.heap.size ≤ k) (.slice (some ⟨bF, 0, none⟩) N cF) (hs2.set q hv) ∧ ((hs2.set q hv).getD q hv0).c = .slice A7 (k3 + 1) c7 ∧ fsOf (hs2.set q hv) = fs ∧ (∀ i, q + 1 ≤ i → i < N → ((hs2.set q hv).getD i hv0).c = .slice none 0 0) ∧ CodeQ w8 w21.heap.size (hs2.set q hv) s.2.2 q (.slice A7 (k3 + 1) c7) ∧ k50.R 50 w8 w21.heap.size (fun k => w21.heap.size ≤ k) (.slice A7 (k3 + 1) c7) (t.2.2 ++ [x]) ∧ ((t.2.2 ++ [x]).length = k3 + 1 ∧ a2.toNat ≤ bs.length ∧ 0 ≤ L4 ∧ L4 < 1048576)) := ⟨fun h => by
      obtain ⟨p, rfl, hp, ho, hr⟩ := HE0.out h
      have hb := HIo.out _ hr
      exact ⟨rfl, rfl, ho, by rw [HStk.out, HCs.out, hr]; rfl, HF8.out, HC8.out, HE8.out, HN8.out, HQ8.out, HX8.out, HLl.out, hb.1, hb.2.1, hb.2.2⟩⟩
     have hwp2 := HW2.out
     go_wp2_with fail
     go_roundw
     case rel => exact ⟨k3 + 1, (a2.toNat, L4, t.2.2 ++ [x]), .slice A7 (k3 + 1) c7, hs2.set q hv, e2, L4, a2, f2, o2, Nat.succ_le_of_lt HLt3.out, by go_num, HH8, B28, B138, HS8, E1, ⟨fun h => E0.out h⟩⟩
     case measure => rw [hwp2]; exact Nat.sub_lt_sub_left (show k3 < M from HLt3.out) (show k3 < k3 + 1 from Nat.lt_succ_self k3)
  have hNb : decide ((q : Int) < (N : Int)) = true := decide_eq_true (by omega)
  have hwp : wrap64 ((q : Int) + 1) = (q : Int) + 1 := wrap_in (by have := HNr.out; omega) (by have := HNr.out; omega)
  obtain ⟨hL, h9, -⟩ := heads_run HBy.out q L hRun
  have HL := Aside0.mk hL
  have H9 : Aside0 (9 + 5 * q ≤ n) := ⟨by rw [Hn.out]; exact h9 hOk.2.2.h9⟩
  have HF := Aside0.mk hF
  have HS := Aside0.mk hS
  have HRun := Aside0.mk hRun
  have HOk := Aside0.mk hOk
  have HLt := Aside0.mk hlt
  have HW1 := Aside0.mk hwp
  clear hL h9 hF hS hRun hOk hwp hq hmq
  go_wp2_with fail
  refine HO.out.mono ?_
  rintro r wx ⟨rfl, rfl⟩
  clear HO hlt hNb
  go_wp2_with fail
  refine (rdhead_any q HH.out.at2 Hn.out HBs.out HBy.out Hm.out H9.out (Nat.le_refl _) HH.out.bel.size HL.out.1 HL.out.2).mono ?_
  rintro r w7 ⟨P, R, V, M, L2, e2, a2, f2, o2, rfl, hR, hE1, hE0⟩
  replace BK2 := Aside0.mk (HH.out.at2.gb BK2.out hR NE.out.2.1 NE.out.2.2)
  replace HF := Aside0.mk (Kd.R_rw HF.out hR (fun k hk => by have := HGi.out; omega))
  replace HS := Aside0.mk (Kd.R_rw HS.out hR (fun k hk => by have := HGi.out; omega))
  replace HH := Aside0.mk (HH.out.trans hR)
  clear hR
  have HLo7 : Aside0 (∀ k_, (Value.slice AF q cF).ownBlock = some k_ → k_ < w7.heap.size) := ⟨Kd.R_lt HF.out⟩
  have HE1 := Aside0.mk hE1
  have HE0 := Aside0.mk hE0
  clear hE1 hE0
  have HB := Aside0.mk (Below.refl w7.heap.size w7)
  go_wp2_with ((with_reducible refine gate_dst (N := 10) rfl ?_); refine box_event ?hg (N := 10) ?hd (cs := #[.int .i64 0, .int .i64 0, .int .i64 0, .slice none 0 0]) (t := 46) ?hr ?_; (case hd => rfl); (case hg => rfl); (case hr => first | (go_simp; done) | (go_simp; rfl)); intro g10 hg w10 hbox hb; have G10 : Aside0 (w7.heap.size ≤ g10) := ⟨by have := HB.out.size; omega⟩; replace HB := Aside0.mk (HB.out.trans (hb.mono HB.out.size)); have BK10 := Aside0.mk hbox; clear hg hbox hb; have k0 : World.cell? w10 ⟨g10, 0, none⟩ = some (.int .i64 0) := (blk_cell BK10.out 0).trans rfl; have k1 : World.cell? w10 ⟨g10, 1, none⟩ = some (.int .i64 0) := (blk_cell BK10.out 1).trans rfl; have k2 : World.cell? w10 ⟨g10, 2, none⟩ = some (.int .i64 0) := (blk_cell BK10.out 2).trans rfl; have k3 : World.cell? w10 ⟨g10, 3, none⟩ = some (.slice none 0 0) := (blk_cell BK10.out 3).trans rfl; have q0 := blk_frozen BK10.out 0; have q1 := blk_frozen BK10.out 1; have q2 := blk_frozen BK10.out 2; have q3 := blk_frozen BK10.out 3)
  clear k0 q0 k1 q1 k2 q2 k3 q3
  have hB1 : Below w7.heap.size w7 (World.setCell (World.setCell (World.setCell (World.setCell w10 ⟨g10, 0, none⟩ (.int .i64 P)) ⟨g10, 1, none⟩ (.int .i64 R)) ⟨g10, 2, none⟩ (.int .i64 V)) ⟨g10, 3, none⟩ (.slice none 0 0)) := (below_set ((below_set ((below_set ((below_set (HB.out) G10.out)) G10.out)) G10.out)) G10.out)
  have Bb : Aside0 ((World.heap (World.setCell (World.setCell (World.setCell (World.setCell w10 ⟨g10, 0, none⟩ (.int .i64 P)) ⟨g10, 1, none⟩ (.int .i64 R)) ⟨g10, 2, none⟩ (.int .i64 V)) ⟨g10, 3, none⟩ (.slice none 0 0)))[g10]? = some (.cells #[.int .i64 P, .int .i64 R, .int .i64 V, .slice none 0 0] 46 (0, 0))) := ⟨((blk_set ((blk_set ((blk_set ((blk_set (BK10.out) 0 (.int .i64 P))) 1 (.int .i64 R))) 2 (.int .i64 V))) 3 (.slice none 0 0))).trans rfl⟩
  have HH_ := Aside0.mk (HH.out.below hB1)
  have BK2_ := Aside0.mk (blk_below BK2.out hB1)
  have HF_ := Aside0.mk (Kd.R_below HF.out hB1)
  have HS_ := Aside0.mk (Kd.R_below HS.out hB1)
  obtain ⟨w8, hw8⟩ : ∃ w8, w8 = (World.setCell (World.setCell (World.setCell (World.setCell w10 ⟨g10, 0, none⟩ (.int .i64 P)) ⟨g10, 1, none⟩ (.int .i64 R)) ⟨g10, 2, none⟩ (.int .i64 V)) ⟨g10, 3, none⟩ (.slice none 0 0)) := ⟨_, rfl⟩
  rw [← hw8] at Bb HH_ BK2_ HF_ HS_ ⊢
  clear hw8 hB1 HB BK10 HH BK2 HF HS
  have BK10 := Bb
  clear Bb
  have HH := HH_
  have BK2 := BK2_
  have HF := HF_
  have HS := HS_
  clear HH_ BK2_ HF_ HS_
  have hs0 := HH.out.g1
  have hs1 : World.cell? w8 ⟨g10, 0, none⟩ = some (.int .i64 P) := (blk_cell BK10.out 0).trans rfl
  have hs2 : World.cell? w8 ⟨g10, 1, none⟩ = some (.int .i64 R) := (blk_cell BK10.out 1).trans rfl
  have hs3 : World.cell? w8 ⟨g10, 2, none⟩ = some (.int .i64 V) := (blk_cell BK10.out 2).trans rfl
  have hs4 : World.cell? w8 ⟨g10, 3, none⟩ = some (.slice none 0 0) := (blk_cell BK10.out 3).trans rfl
  have HLo : Aside0 (∀ k_, (Value.slice AF q cF).ownBlock = some k_ → k_ < w7.heap.size) := ⟨HLo7.out⟩
  go_wp2_with fail
  refine start_ (n := 13) (S := fun w' => w'.cell? ⟨g17, 1, none⟩ = some (.slice AF q cF) ∧ w'.cell? ⟨g10, 0, none⟩ = some (.int .i64 P) ∧ w'.cell? ⟨g10, 1, none⟩ = some (.int .i64 R) ∧ w'.cell? ⟨g10, 2, none⟩ = some (.int .i64 V) ∧ w'.cell? ⟨g10, 3, none⟩ = some (.slice none 0 0)) (ds := [12]) #[false, false, false, false, false, false, false, false, false, false, false, false, false] (by kernel_rfl) rfl rfl ⟨hs0, hs1, hs2, hs3, hs4⟩ (fun hHeld => ?_)
  refine with_tabW TAB_25.tab13 TAB_25.bits13 (fun HT_ HW_ => ?_)
  refine pq 0 (some 58) HT_ rfl rfl (fun _ _ _ h => h) ?_
  refine pq 1 (some 59) HT_ rfl rfl (fun _ _ _ h => h) ?_
  refine pq 2 (some 60) HT_ rfl rfl (fun _ _ _ h => h) ?_
  refine pq 3 (some 61) HT_ rfl rfl (fun _ _ _ h => h) ?_
  refine pq 4 (some 62) HT_ rfl rfl (fun _ _ _ h => h) ?_
  refine pt 5 (some 63) (v := ?_) (a' := ?_) rfl rfl (take_ofW HT_.out HW_.out (by kernel_rfl)) (fun _ _ _ h => h) (Or.inl ⟨by rfl, ?_⟩) hHeld ?_ ?_
  rotate_left; (rintro w' ⟨s0, s1, s2, s3, s4⟩; go_simp; with_reducible rfl); rotate_left; (simp only [Act.put, pn, i64_w, i32_w]; rfl)
  refine pt 6 (some 64) (v := ?_) (a' := ?_) rfl rfl (take_ofW HT_.out HW_.out (by kernel_rfl)) (fun _ _ _ h => h) (Or.inl ⟨by rfl, ?_⟩) hHeld ?_ ?_
  rotate_left; (rintro w' ⟨s0, s1, s2, s3, s4⟩; go_simp; with_reducible rfl); rotate_left; (simp only [Act.put, pn, i64_w, i32_w]; rfl)
  refine one_ (i := 7) (N := some 65) #[true, true, true, true, true, true, true, true, false, false, false, false, false] rfl rfl (one_of HT_.out (by kernel_rfl)) (by decide) (fun K hK => ?_)
  refine value_ (w1 := ?_) (v := ?_) (by rfl) rfl ?_ ?_
  rotate_left 2
  ·go_simp
   constructor
   ·rfl
   ·rfl
  show K _ (World.alloc w8.drew (Obj.cells #[.int .i64 P, .int .i64 R, .int .i64 V, .slice none 0 0] 46))
  refine hK.out _ _ ⟨pw_cell_below (below_alloc (Below.refl _ _) _) hs0, pw_cell_below (below_alloc (Below.refl _ _) _) hs1, pw_cell_below (below_alloc (Below.refl _ _) _) hs2, pw_cell_below (below_alloc (Below.refl _ _) _) hs3, pw_cell_below (below_alloc (Below.refl _ _) _) hs4⟩ (fun hHeld => ?_)
  clear hK K
  refine norm_ (a' := ?_) ?_ ?_
  rotate_left
  ·show Act.put _ (some 65) _ = _
   simp only [Act.put, pn, i64_w, i32_w]
   rfl
  refine one_ (i := 8) (N := some 66) #[true, true, true, true, true, true, true, true, true, false, false, false, false] rfl rfl (one_of HT_.out (by kernel_rfl)) (by decide) (fun K hK => ?_)
  refine Kd.R_append_step kH (w0 := w8.drew) w21.heap.size (by rfl) (.tmp 63) (.tmp 65) 22 46 (.agg #[.int .i64 0, .int .i64 0, .int .i64 0, .slice none 0 0]) 48 (by rfl) Tryd.underlying22 info46 (by rfl) (by decide) (by omega) (.slice AF q cF) (hsOf bs q) ⟨P, R, V, .slice none 0 0, rfl⟩ [.int .i64 P, .int .i64 R, .int .i64 V, .slice none 0 0] (fun k => w21.heap.size ≤ k) (fun _ => False) (by rfl) (by rfl) ?aP (fun _ hk => hk.elim) ?aF ?aO ?aB ?aS ?aL ?_
  case aP => exact rfl
  case aF => exact fun k hk => Nat.le_trans HH.out.sz hk
  case aO => exact Kd.R_drew HF.out
  case aB => exact Below.refl _ _
  case aS => exact HH.out.sz
  case aL => rw [hsOf_len]; have := HNr.out; have := HLt.out; omega
  intro v1 w9 ho hb hgr hat
  have H2 := Aside0.mk (HH.out.drew.grow (Kd.R_drew HF.out) (by decide) (by decide) hgr hb ⟨HGi.out.1, HGi.out.2.1⟩)
  have B2 := Aside0.mk (blk_grown (show w8.drew.heap[g2]? = _ from BK2.out) hgr (Kd.R_ne (Kd.R_drew HF.out) (show w8.drew.heap[g2]? = _ from BK2.out) (by decide)))
  have HT := KeepT.grown (ts := [46]) (g := g17) (Kd.R_drew HF.out) (by simp) hgr
  have S2 := Aside0.mk (HT.row (Kd.R_drew HS.out) (by decide) (fun k hk => by have := HGi.out; omega))
  have FG := Aside0.mk (blk_grown (show w8.drew.heap[g10]? = _ from BK10.out) hgr (fun e => by have := HLo.out g10 e.symm; have := G10.out; omega))
  obtain ⟨l2, hl2⟩ : ∃ l2, l2 = hsOf bs q ++ [(⟨P, R, V, .slice none 0 0, rfl⟩ : HV)] := ⟨_, rfl⟩
  rw [← hl2] at ho
  have HLl : Aside0 (l2.length = q + 1) := ⟨by rw [hl2, List.length_append, hsOf_len]; rfl⟩
  have HL2 := Aside0.mk hl2
  clear hl2
  obtain ⟨A6, c6, rfl⟩ := Kd.R_slice ho
  rw [HLl.out] at ho ⊢
  have FR := Aside0.mk ho
  clear ho hb hgr hat HT
  refine hK.out _ _ ⟨H2.out.g1, (blk_cell FG.out 0).trans rfl, (blk_cell FG.out 1).trans rfl, (blk_cell FG.out 2).trans rfl, (blk_cell FG.out 3).trans rfl⟩ (fun hHeld => ?_)
  clear hK K
  refine norm_ (a' := ?_) ?_ ?_
  rotate_left
  ·show Act.put _ (some 66) _ = _
   simp only [Act.put, pn, i64_w, i32_w]
   rfl
  refine pq 9 (some 67) HT_ rfl rfl (fun _ _ _ h => h) ?_
  refine pq 10 (some 68) HT_ rfl rfl (fun _ _ _ h => h) ?_
  refine pq 11 (some 69) HT_ rfl rfl (fun _ _ _ h => h) ?_
  refine last_ (i := 12) (N := none) #[true, true, true, true, true, true, true, true, true, true, true, true, true] rfl rfl (one_of HT_.out (by kernel_rfl)) (by decide) (fun K hK => ?_)
  have hcz := H2.out.g1
  have hfz := blk_frozen H2.out.wb 1
  refine skip_ (w1 := ?_) (by rfl) rfl ?_ ?_
  rotate_left
  ·go_simp
   rfl
  clear hcz hfz
  refine hK.out _ _ ?_
  clear hK K
  refine done_ (done_of HT_.out (by kernel_rfl)) ?_
  clear hHeld HT_ HW_ hs0 hs1 hs2 hs3 hs4
  have H3 := Aside0.mk (H2.out.setA A6 (q + 1) c6)
  have B3 := Aside0.mk ((Below.heap_setCell w9 ⟨g17, 1, none⟩ (.slice A6 (q + 1) c6) g2 NE.out.2.2).trans B2.out)
  have F3 := Aside0.mk (Kd.R_set FR.out H2.out.wb (by decide) 1 (.slice A6 (q + 1) c6))
  have S3 := Aside0.mk (Kd.R_set S2.out H2.out.wb (by decide) 1 (.slice A6 (q + 1) c6))
  obtain ⟨wa, hwa⟩ : ∃ wa, wa = (w9.setCell ⟨g17, 1, none⟩ (.slice A6 (q + 1) c6)) := ⟨_, rfl⟩
  rw [← hwa] at H3 B3 F3 S3 ⊢
  clear hwa H2 B2 FR S2 FG HH BK2 HF HS BK10
  go_wp2_with ((with_reducible refine gate_builtin (b := .append) (xs := #[.tmp 70, .tmp 72]) rfl ?_); at_builtin; refine Kd.R_append kI (w0 := wa) w21.heap.size rfl (.tmp 70) (.tmp 72) 48 3 (.int .i64 0) 8 rfl Tryd.underlying48 info3 rfl (by decide) (by omega) u8 (szOf bs q) M [.int .i64 M] (fun k => w21.heap.size ≤ k) (fun _ => False) rfl rfl ?aP (fun _ hk => hk.elim) ?aF ?aO ?aB ?aS ?aL ?_; (case aP => exact rfl); (case aF => exact fun k hk => Nat.le_trans H3.out.sz hk); (case aO => exact S3.out); (case aB => exact Below.refl _ _); (case aS => exact H3.out.sz); (case aL => rw [szOf_len]; have := HNr.out; have := HLt.out; omega); intro v1 wv ho hb hgr hat; have H4 := Aside0.mk (H3.out.grow S3.out (by decide) (by decide) hgr hb ⟨HGi.out.1, HGi.out.2.1⟩); have B4 := Aside0.mk (blk_grown B3.out hgr (Kd.R_ne S3.out B3.out (by decide))); have HT := KeepT.grown (ts := [3]) (g := g17) S3.out (by simp) hgr; have F4 := Aside0.mk (HT.row F3.out (by decide) (fun k hk => by have := HGi.out; omega)); have S4 := Aside0.mk ho; clear ho hb hgr hat HT)
  have E1 : Aside0 (e2 ≠ 0 → decR bs = .error (e2, o2)) := ⟨fun h => HOk.out.2.2.head_bad HOk.out.2.1 HLt.out ((runE_next HRun.out).trans (HE1.out h))⟩
  have E0 : Aside0 (e2 = 0 → q + 1 = q + 1 ∧ a2 = ((9 + 5 * (q + 1) : Nat) : Int) ∧ o2 = 0 ∧ (G = bs.getD 6 0 ∧ (N : Int) = cntOf bs ∧ Ok9 bs) ∧ runE (headStep bs) 0 (q + 1) = .ok L2 ∧ kH.R 46 wv w21.heap.size (fun k => w21.heap.size ≤ k) (.slice A6 (q + 1) c6) (hsOf bs (q + 1)) ∧ kI.R 3 wv w21.heap.size (fun k => w21.heap.size ≤ k) v1 (szOf bs (q + 1))) := ⟨fun h => by
   obtain ⟨h1, h2, h3, h4, h5⟩ := HE0.out h
   refine ⟨rfl, h2, h3, HOk.out, (runE_next HRun.out).trans h1, ?_, ?_⟩
   ·rw [hsOf_next, ← h4, ← HL2.out]; exact F4.out
   ·rw [szOf_next, ← h5]; exact S4.out⟩
  have hwp := HW1.out
  go_wp2_with fail
  go_roundw
  case rel => exact ⟨q + 1, L2, e2, A6, q + 1, c6, a2, f2, o2, Nat.succ_le_of_lt HLt.out, by go_num, H4, B4, E1, E0⟩
  case measure => rw [hwp]; exact Nat.sub_lt_sub_left (show q < N from HLt.out) (show q < q + 1 from Nat.lt_succ_self q)
end Go.Proofs.YteonppgdmhakoaaDoor.PC
