/- What a proof of this seat needs, laid together by a program of the session's. No conditions. -/
import Derived.Test.YteonppgdmhakoaaDoorQ5
import Derived.Test.YteonppgdmhakoaaDoorQ1
import Derived.Test.YteonppgdmhakoaaDoorQ3
import Derived.Test.YteonppgdmhakoaaDoorCards
import Derived.Test.YteonppgdmhakoaaDoorTie
import Derived.Deep.DeepHandedRow
import Derived.Lib.LaidTab
import Derived.Test.YteonppgdmhakoaaDoorQ4
import Derived.Deep.Slices
import Derived.SizedLaws
import Derived.Carry
import Derived.WideShapes
import Derived.Test.YteonppgdmhakoaaDoorRows
import Derived.WalkKit
import Derived.ProofKit
import Derived.OpenShut
import Derived.ShutString
import Derived.ChangeOld
import Derived.Below
namespace Go.Proofs.YteonppgdmhakoaaDoor.PC
open Go.RowKit Go.Proofs.YteonppgdmhakoaaDoorW.PrintWords Go.Proofs.YteonppgdmhakoaaDoorW.PrintLast Go.Proofs.YteonppgdmhakoaaDoorW.PrintMore
attribute [local go_sem] max2_int min2_int max_two min_two
set_option linter.unusedVariables false
set_option linter.unusedSimpArgs false
def TAB_24.T23 : Bool × List (List Nat × List Nat) := (true, [([], []), ([], []), ([1], [1]), ([2], [2]), ([3], [3]), ([], []), ([], []), ([], []), ([], []), ([7, 8], [7, 8]), ([9], [9]), ([], []), ([], []), ([], []), ([12, 13], [12, 13]), ([14], [14]), ([15], [15]), ([11, 16], [11, 16]), ([5, 6, 10, 17], [5, 6, 10, 17]), ([18], [18]), ([4, 19, 18], [4, 19]), ([0, 0, 1, 2, 3, 4, 5, 6, 7, 8, 9, 10, 11, 12, 13, 14, 15, 16, 17, 18, 19, 20], [0]), ([21, 0, 1, 2, 3, 4, 5, 6, 7, 8, 9, 10, 11, 12, 13, 14, 15, 16, 17, 18, 19, 20], [21]), ([22, 20, 20, 0, 1, 2, 3, 4, 5, 6, 7, 8, 9, 10, 11, 12, 13, 14, 15, 16, 17, 18, 19, 20], [20, 22])])
def TAB_24.B23 : List Nat := [0, 0, 2, 6, 14, 0, 0, 0, 0, 384, 896, 0, 0, 0, 12288, 28672, 61440, 129024, 262112, 524256, 1048574, 2097151, 4194303, 8388607]
theorem TAB_24.tab23 : rtab .any (opsOf Tryd.f24 23) = TAB_24.T23 := by kernel_rfl
theorem TAB_24.bits23 : waitsOk TAB_24.T23.2 TAB_24.B23 = true := by kernel_rfl
theorem OpsAt.keep2 {w w' : World} {g : Nat} {ds : Array Value} {A : Option Addr} {n c B : Nat} (h : OpsAt w B) (hk : KeepBut w w' g none) (hB : B ≠ g) (hg : w.heap[g]? = some (.cells ds 80 (0, 0))) (h1 : w.cell? ⟨g, 1, none⟩ = some (.slice A n c)) : OpsAt w' B := fun op o1 o2 => by
  obtain ⟨b, hc, hr⟩ := h op o1 o2
  have hb : b ≠ g := by
    intro e
    subst e
    obtain ⟨pk, hpk⟩ := parts_first op o1 o2
    obtain ⟨c0, c1, c2, c3, hp, _, z1, _⟩ := hr 0 pk hpk
    obtain ⟨k1, a1, _, _, _, _, e1, _⟩ := fns_is hp
    rw [show (⟨b, 1, none⟩ : Addr) = ⟨b, 0 * 4 + 1, none⟩ from rfl, z1, e1] at h1
    cases h1
  refine ⟨b, KeepBut.cell hk hc hB, fun j k hj => ?_⟩
  obtain ⟨c0, c1, c2, c3, hp, z0, z1, z2, z3⟩ := hr j k hj
  exact ⟨c0, c1, c2, c3, hp.keep hk hg, KeepBut.cell hk z0 hb, KeepBut.cell hk z1 hb, KeepBut.cell hk z2 hb, KeepBut.cell hk z3 hb⟩
def DecPost (w : World) (bs : List Int) (e : Ending) (w' : World) : Prop := ∃ v, e = .returned (.tuple #[.agg #[.int .i64 (decOut bs).1, v], .int .i64 (decOut bs).2.2.1, .int .i64 (decOut bs).2.2.2]) ∧ k46.R 46 w' w.heap.size (fun k => w.heap.size ≤ k) v (decOut bs).2.1 ∧ Below w.heap.size w w'
set_option maxRecDepth 100000 in
set_option maxHeartbeats 16000000 in
theorem dec_any (A : Option Addr) (c : Nat) (bs : List Int) (w : World) (hB : kB.C w A bs.length bs) (hcb : bs.length ≤ c) (hby : ∀ x ∈ bs, 0 ≤ x ∧ x ≤ 255) (hT : Tab w) : Calls Tryd.prog 24 #[.slice A bs.length c] w fun e w' => DecPost w bs e w' := by
  have hmf : ∀ (fn : Fn) (first cap : Array Value) (w : World), (Instr.makeFunc fn first cap).run Tryd.prog w = .ok (.func fn first cap) w := fun _ _ _ _ => rfl
  have HB := Aside0.mk (Below.refl w.heap.size w)
  have HBs := Aside0.mk hB
  have HCb := Aside0.mk hcb
  have HBy := Aside0.mk hby
  have HT := Aside0.mk hT
  have hm : bs.length ≤ 9223372036854775807 := Kd.C_max hB
  obtain ⟨n, hn⟩ : ∃ n, n = bs.length := ⟨_, rfl⟩
  have Hn := Aside0.mk hn
  rw [← hn] at hm ⊢
  clear hB hcb hby hT hn
  go_enter_defers Tryd.func24, Tryd.ntmps24
  go_wp2_with (first | ((with_reducible refine gate_dst (N := 2) rfl ?_); refine box_event ?hg (N := 2) ?hd (cs := #[.int .i64 0, .slice none 0 0]) (t := 24) ?hr ?_; (case hd => rfl); (case hg => rfl); (case hr => first | (go_simp; done) | (go_simp; rfl)); intro g2 hg w2 hbox hb; have G2 : Aside0 (w.heap.size ≤ g2) := ⟨by have := HB.out.size; omega⟩; have HB_ := Aside0.mk (HB.out.trans (hb.mono HB.out.size)); clear HB; have HB := HB_; clear HB_; have BK2 := Aside0.mk hbox; clear hg hbox hb) | ((with_reducible refine gate_dst (N := 3) rfl ?_); refine box_event ?hg (N := 3) ?hd (cs := #[.int .i64 0]) (t := 27) ?hr ?_; (case hd => rfl); (case hg => rfl); (case hr => first | (go_simp; done) | (go_simp; rfl)); intro g3 hg w3 hbox hb; have G3 : Aside0 (w.heap.size ≤ g3) := ⟨by have := HB.out.size; omega⟩; have HB_ := Aside0.mk (HB.out.trans (hb.mono HB.out.size)); have BK2_ := Aside0.mk (blk_below BK2.out hb); clear HB BK2; have HB := HB_; have BK2 := BK2_; clear HB_ BK2_; have BK3 := Aside0.mk hbox; clear hg hbox hb) | ((with_reducible refine gate_dst (N := 4) rfl ?_); refine box_event ?hg (N := 4) ?hd (cs := #[.int .i64 0]) (t := 3) ?hr ?_; (case hd => rfl); (case hg => rfl); (case hr => first | (go_simp; done) | (go_simp; rfl)); intro g4 hg w4 hbox hb; have G4 : Aside0 (w.heap.size ≤ g4) := ⟨by have := HB.out.size; omega⟩; have HB_ := Aside0.mk (HB.out.trans (hb.mono HB.out.size)); have BK2_ := Aside0.mk (blk_below BK2.out hb); have BK3_ := Aside0.mk (blk_below BK3.out hb); clear HB BK2 BK3; have HB := HB_; have BK2 := BK2_; have BK3 := BK3_; clear HB_ BK2_ BK3_; have BK4 := Aside0.mk hbox; clear hg hbox hb) | ((with_reducible refine gate_dst (N := 15) rfl ?_); refine box_event ?hg (N := 15) ?hd (cs := #[.int .i64 0, .slice none 0 0, .slice none 0 0, .int .i64 0, .int .i64 0, .slice A n c, .int .i64 0]) (t := 80) ?hr ?_; (case hd => rfl); (case hg => rfl); (case hr => first | (go_simp; done) | (go_simp; rfl)); intro g15 hg w15 hbox hb; have G15 : Aside0 (w.heap.size ≤ g15) := ⟨by have := HB.out.size; omega⟩; have HB_ := Aside0.mk (HB.out.trans (hb.mono HB.out.size)); have BK2_ := Aside0.mk (blk_below BK2.out hb); have BK3_ := Aside0.mk (blk_below BK3.out hb); have BK4_ := Aside0.mk (blk_below BK4.out hb); clear HB BK2 BK3 BK4; have HB := HB_; have BK2 := BK2_; have BK3 := BK3_; have BK4 := BK4_; clear HB_ BK2_ BK3_ BK4_; have BK15 := Aside0.mk hbox; clear hg hbox hb))
  have N2 : Aside0 (g2 ≠ g15) := ⟨blk_ne_ty BK2.out BK15.out (by decide)⟩
  have N3 : Aside0 (g3 ≠ g15) := ⟨blk_ne_ty BK3.out BK15.out (by decide)⟩
  have N4 : Aside0 (g4 ≠ g15) := ⟨blk_ne_ty BK4.out BK15.out (by decide)⟩
  have NB : Aside0 (g15 < w15.heap.size) := ⟨blk_lt BK15.out⟩
  refine (ops_any w15).mono ?_
  rintro e wo ⟨B, rfl, hO, hGB, hb⟩
  have HBo := Aside0.mk (HB.out.trans (hb.mono HB.out.size))
  have B2 := Aside0.mk (blk_below BK2.out hb)
  have B3 := Aside0.mk (blk_below BK3.out hb)
  have B4 := Aside0.mk (blk_below BK4.out hb)
  have B15 := Aside0.mk (blk_below BK15.out hb)
  have HO := Aside0.mk hO
  have HBg : Aside0 (B ≠ g15) := ⟨by have := NB.out; omega⟩
  obtain ⟨g, rfl⟩ : ∃ g, g = g15 := ⟨_, rfl⟩
  have hc2 : wo.cell? ⟨g, 2, none⟩ = some (.slice none 0 0) := (blk_cell B15.out 2).trans rfl
  have hf2 := blk_frozen B15.out 2
  obtain ⟨k, hk⟩ : ∃ k : Nat, k = min n 6 := ⟨_, rfl⟩
  have hmin : (if (6 : Int) < (n : Int) then (6 : Int) else (n : Int)) = (k : Int) := by split <;> omega
  have HKm := Aside0.mk hk
  clear hk
  clear hO hGB hb HB BK2 BK3 BK4 BK15 NB
  go_wp2_with fail
  clear hc2 hf2
  have HAp : Aside0 (AskW (wo.setCell ⟨g, 2, none⟩ (.slice (some ⟨B, 0, none⟩) 18 18)) g 80 (rdR A bs.length c ((0 : Nat) : Int)) 0 none 0 0 B 0 0) := ⟨by rw [← Hn.out]; exact (blk_set B15.out 2 _).trans (by simp)⟩
  have HZp : Aside0 (Below w.heap.size w (wo.setCell ⟨g, 2, none⟩ (.slice (some ⟨B, 0, none⟩) 18 18))) := ⟨below_set HBo.out G15.out⟩
  have HK1 : KeepBut wo (wo.setCell ⟨g, 2, none⟩ (.slice (some ⟨B, 0, none⟩) 18 18)) g none := (KeepBut.refl wo g none).set_ 2 _
  have HOp := Aside0.mk (HO.out.keep2 HK1 HBg.out B15.out ((blk_cell B15.out 1).trans rfl))
  have P2 := Aside0.mk (HK1.blk B2.out N2.out (by simp))
  have P3 := Aside0.mk (HK1.blk B3.out N3.out (by simp))
  have P4 := Aside0.mk (HK1.blk B4.out N4.out (by simp))
  obtain ⟨wp, hwp⟩ : ∃ wp, wp = wo.setCell ⟨g, 2, none⟩ (.slice (some ⟨B, 0, none⟩) 18 18) := ⟨_, rfl⟩
  rw [← hwp] at HAp HZp HOp P2 P3 P4 ⊢
  have HGp : Aside0 (g < wp.heap.size) := ⟨blk_lt HAp.out⟩
  clear hwp HK1 HO HBo B2 B3 B4 B15 hmin
  have hkn : k ≤ n ∧ k ≤ 6 := by have := HKm.out; omega
  have hkc : k ≤ c := by have := HCb.out; have := Hn.out; omega
  have hkc' : (k : Int) ≤ (c : Int) := by omega
  have hk6 : k ≤ 6 := hkn.2
  have hcv2 : (convert 33 9 (.slice A k c)).run Tryd.prog wp.drew = .ok (.string (strOfNums (bs.take k))) wp.drew := conv_bytes (w := wp.drew) (Hn.out ▸ Kd.C_below HBs.out HZp.out.drew) k c hkn.1
  have hsz : ({ data := #[102, 117, 103, 117, 101, 1] } : ByteArray).size = 6 := rfl
  have hk6i : (k : Int) ≤ 6 := by omega
  refine wp_tail 10 (by kernel_rfl) (by kernel_rfl) ?_
  simp only [List.take_succ_cons, List.take_zero, List.drop_succ_cons, List.drop_zero]
  repeat still_step
  refine wpStill_nil ?_
  go_wp2_with fail
  rw [magic_eq bs HBy.out k (by rw [← Hn.out]; exact HKm.out)]
  clear hcv2 hsz hk6i hkn hkc hkc' hk6
  have HA5 : Aside0 (AskW wp.drew g 80 (rdR A bs.length c ((0 : Nat) : Int)) 0 none 0 0 B 0 0) := ⟨HAp.out⟩
  have HZ5 : Aside0 (Below w.heap.size w wp.drew) := ⟨HZp.out.drew⟩
  have HK5 : Aside0 (KeepBut wp wp.drew g none) := ⟨KeepBut.of_below (below_drew (Below.refl _ _)) g none⟩
  obtain ⟨w5, hw5⟩ : ∃ w5, w5 = wp.drew := ⟨_, rfl⟩
  rw [← hw5] at HA5 HZ5 HK5 ⊢
  clear hw5
  by_cases hmg : bs.take 6 = magicL.take bs.length
  rotate_left
  · have h4 : w5.cell? ⟨g, 4, none⟩ = some (.int .i64 0) := HA5.out.c4
    rw [decide_eq_false hmg]
    refine (must_false g 10 0 w5 h4).mono ?_
    rintro e w' ⟨rfl, rfl⟩
    clear h4
    have HE : Aside0 (decR bs = .error (10, 0)) := ⟨by unfold decR; rw [if_neg hmg]⟩
    have Q2 := Aside0.mk (HK5.out.blk P2.out N2.out (by simp))
    have Q3 := Aside0.mk (HK5.out.blk P3.out N3.out (by simp))
    have Q4 := Aside0.mk (HK5.out.blk P4.out N4.out (by simp))
    have QZ := Aside0.mk (HZ5.out)
    go_wp2_with fail
    refine leaves_cons (f := 41) (args := #[.pointer (some ⟨g2, 0, none⟩), .pointer (some ⟨g3, 0, none⟩), .pointer (some ⟨g4, 0, none⟩)]) (by simp) (by simp [go_sem]) ?_
    refine (catchD_stop g2 g3 g4 0 0 (10) (0) (.slice none 0 0) w5 Q2.out Q3.out ⟨0, Q4.out⟩).mono ?_
    rintro e u' w'' ⟨rfl, rfl, hst⟩
    have r0 : w''.cell? ⟨g2, 0, none⟩ = some (.int .i64 0) := (blk_cell hst.1 0).trans rfl
    have r1 : w''.cell? ⟨g2, 1, none⟩ = some (.slice none 0 0) := (blk_cell hst.1 1).trans rfl
    have r2 : w''.cell? ⟨g3, 0, none⟩ = some (.int .i64 (10)) := (blk_cell hst.2.1 0).trans rfl
    have r3 : w''.cell? ⟨g4, 0, none⟩ = some (.int .i64 (0)) := (blk_cell hst.2.2.1 0).trans rfl
    have HPo : Aside0 (DecPost w bs (.returned (.tuple #[.agg #[.int .i64 0, .slice none 0 0], .int .i64 (10), .int .i64 (0)])) w'') := ⟨by unfold DecPost decOut; rw [HE.out]; exact ⟨.slice none 0 0, rfl, Kd.R_nil _ _ _ _ _, hst.2.2.2 w QZ.out G2.out G3.out G4.out⟩⟩
    clear hst Q2 Q3 Q4 QZ HE
    simp [Leaves, settle, results, Tryd.results24, go_sem, r0, r1, r2, r3]
    exact HPo.out
  have HMg := Aside0.mk hmg
  rw [decide_eq_true hmg]
  clear hmg
  refine (must_true _ _ _).mono ?_
  rintro e w' ⟨rfl, rfl⟩
  have HNm := Aside0.mk (number_rd g 6 (by omega) (0) none 0 0 B (0) (0) A c bs 0 w w5 HZ5.out G15.out HA5.out HBs.out (by have := HMg.out; omega) HBy.out)
  go_wp2_with fail
  refine HNm.out.mono ?_
  rintro e w' ⟨rfl, hA, hZ, hK⟩
  have HZ6 := Aside0.mk hZ
  have HK6 : Aside0 (KeepBut wp w' g none) := ⟨KeepBut.trans HK5.out hK (.inl rfl)⟩
  clear hZ hK HNm HA5 HZ5 HK5
  obtain ⟨w6, rfl⟩ : ∃ w6, w6 = w' := ⟨_, rfl⟩
  by_cases hle : 0 + 6 ≤ bs.length
  rotate_left
  · rw [if_neg hle]
    have HE : Aside0 (decR bs = .error (11, bs.length)) := ⟨by unfold decR; rw [if_pos HMg.out, if_neg (by omega)]⟩
    have Q2 := Aside0.mk (HK6.out.blk P2.out N2.out (by simp))
    have Q3 := Aside0.mk (HK6.out.blk P3.out N3.out (by simp))
    have Q4 := Aside0.mk (HK6.out.blk P4.out N4.out (by simp))
    have QZ := Aside0.mk (HZ6.out)
    go_wp2_with fail
    refine leaves_cons (f := 41) (args := #[.pointer (some ⟨g2, 0, none⟩), .pointer (some ⟨g3, 0, none⟩), .pointer (some ⟨g4, 0, none⟩)]) (by simp) (by simp [go_sem]) ?_
    refine (catchD_stop g2 g3 g4 0 0 (11) (bs.length) (.slice none 0 0) w6 Q2.out Q3.out ⟨0, Q4.out⟩).mono ?_
    rintro e u' w'' ⟨rfl, rfl, hst⟩
    have r0 : w''.cell? ⟨g2, 0, none⟩ = some (.int .i64 0) := (blk_cell hst.1 0).trans rfl
    have r1 : w''.cell? ⟨g2, 1, none⟩ = some (.slice none 0 0) := (blk_cell hst.1 1).trans rfl
    have r2 : w''.cell? ⟨g3, 0, none⟩ = some (.int .i64 (11)) := (blk_cell hst.2.1 0).trans rfl
    have r3 : w''.cell? ⟨g4, 0, none⟩ = some (.int .i64 (bs.length)) := (blk_cell hst.2.2.1 0).trans rfl
    have HPo : Aside0 (DecPost w bs (.returned (.tuple #[.agg #[.int .i64 0, .slice none 0 0], .int .i64 (11), .int .i64 (bs.length)])) w'') := ⟨by unfold DecPost decOut; rw [HE.out]; exact ⟨.slice none 0 0, rfl, Kd.R_nil _ _ _ _ _, hst.2.2.2 w QZ.out G2.out G3.out G4.out⟩⟩
    clear hst Q2 Q3 Q4 QZ HE
    simp [Leaves, settle, results, Tryd.results24, go_sem, r0, r1, r2, r3]
    exact HPo.out
  have HA6 := Aside0.mk (hA hle)
  have L6 := Aside0.mk hle
  rw [if_pos hle]
  clear hA hle
  have HNm := Aside0.mk (number_rd g 1 (by omega) (0) none 0 0 B (0) (0) A c bs 6 w w6 HZ6.out G15.out HA6.out HBs.out (by have := L6.out; omega) HBy.out)
  go_wp2_with fail
  refine HNm.out.mono ?_
  rintro e w' ⟨rfl, hA, hZ, hK⟩
  have HZ7 := Aside0.mk hZ
  have HK7 : Aside0 (KeepBut wp w' g none) := ⟨KeepBut.trans HK6.out hK (.inl rfl)⟩
  clear hZ hK HNm HA6 HZ6 HK6
  obtain ⟨w7, rfl⟩ : ∃ w7, w7 = w' := ⟨_, rfl⟩
  by_cases hle : 6 + 1 ≤ bs.length
  rotate_left
  · rw [if_neg hle]
    have HE : Aside0 (decR bs = .error (11, bs.length)) := ⟨by unfold decR; rw [if_pos HMg.out, if_pos (show 6 ≤ bs.length by have := L6.out; omega), if_neg (by omega)]⟩
    have Q2 := Aside0.mk (HK7.out.blk P2.out N2.out (by simp))
    have Q3 := Aside0.mk (HK7.out.blk P3.out N3.out (by simp))
    have Q4 := Aside0.mk (HK7.out.blk P4.out N4.out (by simp))
    have QZ := Aside0.mk (HZ7.out)
    go_wp2_with fail
    refine leaves_cons (f := 41) (args := #[.pointer (some ⟨g2, 0, none⟩), .pointer (some ⟨g3, 0, none⟩), .pointer (some ⟨g4, 0, none⟩)]) (by simp) (by simp [go_sem]) ?_
    refine (catchD_stop g2 g3 g4 0 0 (11) (bs.length) (.slice none 0 0) w7 Q2.out Q3.out ⟨0, Q4.out⟩).mono ?_
    rintro e u' w'' ⟨rfl, rfl, hst⟩
    have r0 : w''.cell? ⟨g2, 0, none⟩ = some (.int .i64 0) := (blk_cell hst.1 0).trans rfl
    have r1 : w''.cell? ⟨g2, 1, none⟩ = some (.slice none 0 0) := (blk_cell hst.1 1).trans rfl
    have r2 : w''.cell? ⟨g3, 0, none⟩ = some (.int .i64 (11)) := (blk_cell hst.2.1 0).trans rfl
    have r3 : w''.cell? ⟨g4, 0, none⟩ = some (.int .i64 (bs.length)) := (blk_cell hst.2.2.1 0).trans rfl
    have HPo : Aside0 (DecPost w bs (.returned (.tuple #[.agg #[.int .i64 0, .slice none 0 0], .int .i64 (11), .int .i64 (bs.length)])) w'') := ⟨by unfold DecPost decOut; rw [HE.out]; exact ⟨.slice none 0 0, rfl, Kd.R_nil _ _ _ _ _, hst.2.2.2 w QZ.out G2.out G3.out G4.out⟩⟩
    clear hst Q2 Q3 Q4 QZ HE
    simp [Leaves, settle, results, Tryd.results24, go_sem, r0, r1, r2, r3]
    exact HPo.out
  have HA7 := Aside0.mk (hA hle)
  have L7 := Aside0.mk hle
  rw [if_pos hle]
  clear hA hle
  rw [num_one bs 6 HBy.out]
  obtain ⟨G, hG⟩ : ∃ G, G = bs.getD 6 0 := ⟨_, rfl⟩
  have HGv := Aside0.mk hG
  rw [← hG]
  clear hG
  have hs0 : w7.cell? ⟨g, 0, none⟩ = some (.int .i64 0) := HA7.out.c0
  have hf0 := blk_frozen HA7.out 0
  go_wp2_with fail
  clear hs0 hf0
  have HA8 := Aside0.mk (AskW.set0 (G' := G) HA7.out)
  have HZ8 : Aside0 (Below w.heap.size w (w7.setCell ⟨g, 0, none⟩ (.int .i64 G))) := ⟨below_set HZ7.out G15.out⟩
  have HK8 : Aside0 (KeepBut wp (w7.setCell ⟨g, 0, none⟩ (.int .i64 G)) g none) := ⟨HK7.out.set_ 0 _⟩
  obtain ⟨w8, hw8⟩ : ∃ w8, w8 = w7.setCell ⟨g, 0, none⟩ (.int .i64 G) := ⟨_, rfl⟩
  rw [← hw8] at HA8 HZ8 HK8 ⊢
  clear hw8 HA7 HZ7 HK7
  have hs0 : w8.cell? ⟨g, 0, none⟩ = some (.int .i64 G) := HA8.out.c0
  have HC := Aside0.mk (globals_any g G 6 w8.drew HA8.out.c4)
  refine wp_tail 9 (by kernel_rfl) (by kernel_rfl) ?_
  simp only [List.take_succ_cons, List.take_zero, List.drop_succ_cons, List.drop_zero]
  repeat still_step
  refine wpStill_nil ?_
  go_wp2_with fail
  refine HC.out.mono ?_
  rintro e w' ⟨he, hb⟩
  have HA9 : Aside0 (AskW w' g 80 (rdR A bs.length c ((6 + 1 : Nat) : Int)) G none 0 0 B 0 6) := ⟨AskW.below (w := w8.drew) HA8.out hb⟩
  have HZ9 : Aside0 (Below w.heap.size w w') := ⟨HZ8.out.drew.trans (hb.mono HZ8.out.size)⟩
  have HK9 : Aside0 (KeepBut wp w' g none) := ⟨KeepBut.trans HK8.out (KeepBut.of_below (show Below w8.heap.size w8 w' from (below_drew (Below.refl _ _)).trans hb) g none) (.inl rfl)⟩
  clear hb HC HA8 HZ8 HK8 hs0
  obtain ⟨w9, rfl⟩ : ∃ w9, w9 = w' := ⟨_, rfl⟩
  by_cases h1 : globE G = 0
  rotate_left
  · rw [if_neg h1] at he
    subst he
    have HE : Aside0 (decR bs = .error (globE G, 6)) := ⟨by unfold decR; rw [if_pos HMg.out, if_pos (show 6 ≤ bs.length by have := L6.out; omega), if_pos (show 7 ≤ bs.length by have := L7.out; omega), ← HGv.out, if_neg h1]⟩
    have Q2 := Aside0.mk (HK9.out.blk P2.out N2.out (by simp))
    have Q3 := Aside0.mk (HK9.out.blk P3.out N3.out (by simp))
    have Q4 := Aside0.mk (HK9.out.blk P4.out N4.out (by simp))
    have QZ := Aside0.mk (HZ9.out)
    go_wp2_with fail
    refine leaves_cons (f := 41) (args := #[.pointer (some ⟨g2, 0, none⟩), .pointer (some ⟨g3, 0, none⟩), .pointer (some ⟨g4, 0, none⟩)]) (by simp) (by simp [go_sem]) ?_
    refine (catchD_stop g2 g3 g4 0 0 (globE G) (6) (.slice none 0 0) w9 Q2.out Q3.out ⟨0, Q4.out⟩).mono ?_
    rintro e u' w'' ⟨rfl, rfl, hst⟩
    have r0 : w''.cell? ⟨g2, 0, none⟩ = some (.int .i64 0) := (blk_cell hst.1 0).trans rfl
    have r1 : w''.cell? ⟨g2, 1, none⟩ = some (.slice none 0 0) := (blk_cell hst.1 1).trans rfl
    have r2 : w''.cell? ⟨g3, 0, none⟩ = some (.int .i64 (globE G)) := (blk_cell hst.2.1 0).trans rfl
    have r3 : w''.cell? ⟨g4, 0, none⟩ = some (.int .i64 (6)) := (blk_cell hst.2.2.1 0).trans rfl
    have HPo : Aside0 (DecPost w bs (.returned (.tuple #[.agg #[.int .i64 0, .slice none 0 0], .int .i64 (globE G), .int .i64 (6)])) w'') := ⟨by unfold DecPost decOut; rw [HE.out]; exact ⟨.slice none 0 0, rfl, Kd.R_nil _ _ _ _ _, hst.2.2.2 w QZ.out G2.out G3.out G4.out⟩⟩
    clear hst Q2 Q3 Q4 QZ HE
    simp [Leaves, settle, results, Tryd.results24, go_sem, r0, r1, r2, r3]
    exact HPo.out
  rw [if_pos h1] at he
  subst he
  have H1 := Aside0.mk h1
  clear h1
  have HNm := Aside0.mk (number_rd g 2 (by omega) (G) none 0 0 B (0) (6) A c bs 7 w w9 HZ9.out G15.out HA9.out HBs.out (by have := L7.out; omega) HBy.out)
  go_wp2_with fail
  refine HNm.out.mono ?_
  rintro e w' ⟨rfl, hA, hZ, hK⟩
  have HZa := Aside0.mk hZ
  have HKa : Aside0 (KeepBut wp w' g none) := ⟨KeepBut.trans HK9.out hK (.inl rfl)⟩
  clear hZ hK HNm HA9 HZ9 HK9
  obtain ⟨wa, rfl⟩ : ∃ wa, wa = w' := ⟨_, rfl⟩
  by_cases hle : 7 + 2 ≤ bs.length
  rotate_left
  · rw [if_neg hle]
    have HE : Aside0 (decR bs = .error (11, bs.length)) := ⟨by unfold decR; rw [if_pos HMg.out, if_pos (show 6 ≤ bs.length by have := L6.out; omega), if_pos (show 7 ≤ bs.length by have := L7.out; omega), ← HGv.out, if_pos H1.out, if_neg (by omega)]⟩
    have Q2 := Aside0.mk (HKa.out.blk P2.out N2.out (by simp))
    have Q3 := Aside0.mk (HKa.out.blk P3.out N3.out (by simp))
    have Q4 := Aside0.mk (HKa.out.blk P4.out N4.out (by simp))
    have QZ := Aside0.mk (HZa.out)
    go_wp2_with fail
    refine leaves_cons (f := 41) (args := #[.pointer (some ⟨g2, 0, none⟩), .pointer (some ⟨g3, 0, none⟩), .pointer (some ⟨g4, 0, none⟩)]) (by simp) (by simp [go_sem]) ?_
    refine (catchD_stop g2 g3 g4 0 0 (11) (bs.length) (.slice none 0 0) wa Q2.out Q3.out ⟨0, Q4.out⟩).mono ?_
    rintro e u' w'' ⟨rfl, rfl, hst⟩
    have r0 : w''.cell? ⟨g2, 0, none⟩ = some (.int .i64 0) := (blk_cell hst.1 0).trans rfl
    have r1 : w''.cell? ⟨g2, 1, none⟩ = some (.slice none 0 0) := (blk_cell hst.1 1).trans rfl
    have r2 : w''.cell? ⟨g3, 0, none⟩ = some (.int .i64 (11)) := (blk_cell hst.2.1 0).trans rfl
    have r3 : w''.cell? ⟨g4, 0, none⟩ = some (.int .i64 (bs.length)) := (blk_cell hst.2.2.1 0).trans rfl
    have HPo : Aside0 (DecPost w bs (.returned (.tuple #[.agg #[.int .i64 0, .slice none 0 0], .int .i64 (11), .int .i64 (bs.length)])) w'') := ⟨by unfold DecPost decOut; rw [HE.out]; exact ⟨.slice none 0 0, rfl, Kd.R_nil _ _ _ _ _, hst.2.2.2 w QZ.out G2.out G3.out G4.out⟩⟩
    clear hst Q2 Q3 Q4 QZ HE
    simp [Leaves, settle, results, Tryd.results24, go_sem, r0, r1, r2, r3]
    exact HPo.out
  have HAa := Aside0.mk (hA hle)
  have L9 := Aside0.mk hle
  rw [if_pos hle]
  clear hA hle
  rw [num_two bs 7 HBy.out]
  obtain ⟨cnt, hcnt⟩ : ∃ cnt, cnt = bs.getD 7 0 + bs.getD (7 + 1) 0 * 256 := ⟨_, rfl⟩
  have HCn : Aside0 (cntOf bs = cnt) := ⟨hcnt.symm⟩
  have hc0 := byte_at HBy.out 7
  have hc1 := byte_at HBy.out (7 + 1)
  have HCr : Aside0 (0 ≤ cnt ∧ cnt ≤ 65535) := ⟨by omega⟩
  rw [← hcnt]
  clear hcnt hc0 hc1
  have HC := Aside0.mk (funcs_any g cnt 7 wa HAa.out.c4)
  go_wp2_with fail
  refine HC.out.mono ?_
  rintro e w' ⟨he, hb⟩
  have HAb := Aside0.mk (HAa.out.below hb)
  have HZb := Aside0.mk (HZa.out.trans (hb.mono HZa.out.size))
  have HKb : Aside0 (KeepBut wp w' g none) := ⟨KeepBut.trans HKa.out (KeepBut.of_below hb g none) (.inl rfl)⟩
  clear hb HC HAa HZa HKa
  obtain ⟨wb, rfl⟩ : ∃ wb, wb = w' := ⟨_, rfl⟩
  by_cases h1 : funcsE cnt = 0
  rotate_left
  · rw [if_neg h1] at he
    subst he
    have HE : Aside0 (decR bs = .error (funcsE cnt, 7)) := ⟨by unfold decR; rw [if_pos HMg.out, if_pos (show 6 ≤ bs.length by have := L6.out; omega), if_pos (show 7 ≤ bs.length by have := L7.out; omega), ← HGv.out, if_pos H1.out, if_pos (show 9 ≤ bs.length by have := L9.out; omega), HCn.out, if_neg h1]⟩
    have Q2 := Aside0.mk (HKb.out.blk P2.out N2.out (by simp))
    have Q3 := Aside0.mk (HKb.out.blk P3.out N3.out (by simp))
    have Q4 := Aside0.mk (HKb.out.blk P4.out N4.out (by simp))
    have QZ := Aside0.mk (HZb.out)
    go_wp2_with fail
    refine leaves_cons (f := 41) (args := #[.pointer (some ⟨g2, 0, none⟩), .pointer (some ⟨g3, 0, none⟩), .pointer (some ⟨g4, 0, none⟩)]) (by simp) (by simp [go_sem]) ?_
    refine (catchD_stop g2 g3 g4 0 0 (funcsE cnt) (7) (.slice none 0 0) wb Q2.out Q3.out ⟨0, Q4.out⟩).mono ?_
    rintro e u' w'' ⟨rfl, rfl, hst⟩
    have r0 : w''.cell? ⟨g2, 0, none⟩ = some (.int .i64 0) := (blk_cell hst.1 0).trans rfl
    have r1 : w''.cell? ⟨g2, 1, none⟩ = some (.slice none 0 0) := (blk_cell hst.1 1).trans rfl
    have r2 : w''.cell? ⟨g3, 0, none⟩ = some (.int .i64 (funcsE cnt)) := (blk_cell hst.2.1 0).trans rfl
    have r3 : w''.cell? ⟨g4, 0, none⟩ = some (.int .i64 (7)) := (blk_cell hst.2.2.1 0).trans rfl
    have HPo : Aside0 (DecPost w bs (.returned (.tuple #[.agg #[.int .i64 0, .slice none 0 0], .int .i64 (funcsE cnt), .int .i64 (7)])) w'') := ⟨by unfold DecPost decOut; rw [HE.out]; exact ⟨.slice none 0 0, rfl, Kd.R_nil _ _ _ _ _, hst.2.2.2 w QZ.out G2.out G3.out G4.out⟩⟩
    clear hst Q2 Q3 Q4 QZ HE
    simp [Leaves, settle, results, Tryd.results24, go_sem, r0, r1, r2, r3]
    exact HPo.out
  rw [if_pos h1] at he
  subst he
  have H2 := Aside0.mk h1
  clear h1
  obtain ⟨N, rfl⟩ : ∃ N : Nat, cnt = (N : Int) := ⟨cnt.toNat, by have := HCr.out; omega⟩
  have HNr : Aside0 (1 ≤ N ∧ N ≤ 65535) := ⟨by have := HCr.out; have h := H2.out; unfold funcsE at h; by_cases c : 1 ≤ (N : Int) ∧ (N : Int) ≤ 65535; exact (by omega); rw [if_neg c] at h; omega⟩
  go_wp2_with fail
  have HAb' : Aside0 (AskW wb g 80 (rdR A bs.length c ((9 + 5 * 0 : Nat) : Int)) G none 0 0 B 0 7) := ⟨HAb.out⟩
  clear HAb
  go_loopw [8, 62] (fun v8 v62 w' => ∃ (q : Nat) (l : Int) (AF : Option Addr) (cF : Nat) (a : Int), q ≤ N ∧ v62 = .int .i64 (q : Int) ∧ Aside0 (runE (headStep bs) 0 q = .ok l) ∧ Aside0 (AskW w' g 80 (rdR A bs.length c ((9 + 5 * q : Nat) : Int)) G AF q cF B l a) ∧ Aside0 (kH.R 46 w' wp.heap.size (fun k => wp.heap.size ≤ k) (.slice AF q cF) (hsOf bs q)) ∧ Aside0 (kI.R 3 w' wp.heap.size (fun k => wp.heap.size ≤ k) v8 (szOf bs q)) ∧ Aside0 (Below w.heap.size w w') ∧ Aside0 (KeepBut wp w' g none)) (fun _ i _ => N - (intOf i).toNat)
  case atStart => exact ⟨0, 0, none, 0, 7, Nat.zero_le _, rfl, ⟨rfl⟩, HAb', ⟨Kd.R_nil _ _ _ _ _⟩, ⟨Kd.R_nil _ _ _ _ _⟩, HZb, HKb⟩
  case round =>
    obtain ⟨q, l, AF, cF, a, hq, rfl, HRn, HAq, HFq, HSq, HZq, HKq⟩ := hrel
    clear HAb' HZb HKb
    by_cases hlt : q < N
    rotate_left
    · obtain rfl : N = q := by omega
      obtain ⟨bF, cF', hvF, hbF, -, -⟩ := Kd.R_form HFq.out (by rw [hsOf_len]; exact HNr.out.1)
      injection hvF with hvF hlq hcF
      clear hlq
      subst hvF
      subst hcF
      obtain ⟨bS, cS, hvS, -⟩ := Kd.R_form HSq.out (by rw [szOf_len]; exact HNr.out.1)
      rw [szOf_len] at hvS
      subst hvS
      have HbF : Aside0 (bF ≠ g) := ⟨by have := HGp.out; omega⟩
      have HbFp := Aside0.mk hbF
      have HRh := HRn
      have HRn2 := Aside0.mk (heads_run HBy.out N l HRn.out)
      have hs1 : wr.cell? ⟨g, 1, none⟩ = some (.slice (some ⟨bF, 0, none⟩) N cF) := HAq.out.c1
      clear hlt hq hbF
      go_wp2_with fail
      clear hs1
      obtain ⟨fs, hfs⟩ : ∃ fs, fs = fsOf (hsOf bs N) := ⟨_, rfl⟩
      have HFs := Aside0.mk hfs
      have HFl : Aside0 (fs.length = N) := ⟨by rw [hfs, fsOf_len, hsOf_len]⟩
      clear hfs
      go_loopw [77] (fun v77 w' => ∃ (q : Nat) (s : Nat × Int × List (List S50)) (hs : List HV) (a : Int), q ≤ N ∧ v77 = .int .i64 (q : Int) ∧ Aside0 (runE (funcStep G fs bs) (9 + 5 * N, l, []) q = .ok s) ∧ Aside0 (AskW w' g 80 (rdR A bs.length c (s.1 : Int)) G (some ⟨bF, 0, none⟩) N cF B s.2.1 a) ∧ Aside0 (kH.R 46 w' wp.heap.size (fun k => wp.heap.size ≤ k) (.slice (some ⟨bF, 0, none⟩) N cF) hs) ∧ Aside0 (fsOf hs = fs) ∧ Aside0 (∀ i, q ≤ i → i < N → (hs.getD i hv0).c = .slice none 0 0) ∧ Aside0 (CodeQ w' wp.heap.size hs s.2.2 q (.slice none 0 0)) ∧ Aside0 (kI.R 3 w' wp.heap.size (fun k => wp.heap.size ≤ k) (.slice (some ⟨bS, 0, none⟩) N cS) (szOf bs N)) ∧ Aside0 (s.2.2.length = q ∧ s.1 ≤ bs.length ∧ 0 ≤ s.2.1 ∧ s.2.1 < 1048576) ∧ Aside0 (Below w.heap.size w w') ∧ Aside0 (KeepBut wp w' g none)) (fun i _ => N - (intOf i).toNat)
      case atStart => exact ⟨0, (9 + 5 * N, l, []), hsOf bs N, a, Nat.zero_le _, rfl, ⟨rfl⟩, HAq, HFq, ⟨HFs.out.symm⟩, ⟨fun i _ hi => by rw [hs_at bs N i hi]; rfl⟩, ⟨fun i hi => by omega⟩, HSq, ⟨rfl, HRn2.out.2.1 L9.out, HRn2.out.1.1, HRn2.out.1.2⟩, HZq, HKq⟩
      case round =>
        obtain ⟨q, s, hs, a, hq, rfl, HRf, HAf, HFf, HFe, HNil, HCq, HSf, HIn, HZf, HKf⟩ := hrel
        clear HAq HFq HSq HZq HKq
        by_cases hlt : q < N
        rotate_left
        · obtain rfl : N = q := by omega
          obtain ⟨nx, hnx⟩ : ∃ nx, nx = s.1 := ⟨_, rfl⟩
          have HNx := Aside0.mk hnx
          rw [← hnx] at HAf
          clear hnx
          have hs6 : wr.cell? ⟨g, 6, none⟩ = some (.int .i64 (nx : Int)) := (blk_cell HAf.out 6).trans rfl
          have hs4 : wr.cell? ⟨g, 4, none⟩ = some (.int .i64 a) := HAf.out.c4
          have hf4 := blk_frozen HAf.out 4
          clear hlt hq
          go_wp2_with fail
          clear hs6 hs4 hf4
          have HA1 := Aside0.mk (HAf.out.set4 (nx : Int))
          have HZ1 : Aside0 (Below w.heap.size w (wr.setCell ⟨g, 4, none⟩ (.int .i64 (nx : Int)))) := ⟨below_set HZf.out G15.out⟩
          have HK1 : Aside0 (KeepBut wp (wr.setCell ⟨g, 4, none⟩ (.int .i64 (nx : Int))) g none) := ⟨HKf.out.set_ 4 _⟩
          have HKr : Aside0 (KeepBut wr (wr.setCell ⟨g, 4, none⟩ (.int .i64 (nx : Int))) g none) := ⟨(KeepBut.refl wr g none).set_ 4 _⟩
          have HF1 : Aside0 (kH.R 46 (wr.setCell ⟨g, 4, none⟩ (.int .i64 (nx : Int))) wp.heap.size (fun k => wp.heap.size ≤ k) (.slice (some ⟨bF, 0, none⟩) N cF) hs) := ⟨Kd.R_keep HFf.out HKr.out (fun k hk => by have := HGp.out; omega)⟩
          have HC1 : Aside0 (CodeQ (wr.setCell ⟨g, 4, none⟩ (.int .i64 (nx : Int))) wp.heap.size hs s.2.2 N (.slice none 0 0)) := ⟨HCq.out.keep HKr.out HGp.out⟩
          obtain ⟨w1, hw1⟩ : ∃ w1, w1 = wr.setCell ⟨g, 4, none⟩ (.int .i64 (nx : Int)) := ⟨_, rfl⟩
          rw [← hw1] at HA1 HZ1 HK1 HF1 HC1 ⊢
          clear hw1 HAf HZf HKf HFf HCq HKr HSf HNil
          have hs6 : w1.cell? ⟨g, 6, none⟩ = some (.int .i64 (nx : Int)) := (blk_cell HA1.out 6).trans rfl
          have h4 : w1.drew.cell? ⟨g, 4, none⟩ = some (.int .i64 (nx : Int)) := HA1.out.c4
          obtain ⟨eb, heb⟩ : ∃ eb, ((nx : Int) == (n : Int)) = eb := ⟨_, rfl⟩
          refine wp_tail 10 (by kernel_rfl) (by kernel_rfl) ?_
          simp only [List.take_succ_cons, List.take_zero, List.drop_succ_cons, List.drop_zero]
          repeat still_step
          refine wpStill_nil ?_
          go_wp2_with fail
          refine (must_any g eb 22 nx w1.drew h4).mono ?_
          rintro e w' ⟨he, rfl⟩
          have HEb := Aside0.mk heb
          have HA2 : Aside0 (AskW w1.drew g 80 (rdR A bs.length c (nx : Int)) G (some ⟨bF, 0, none⟩) N cF B s.2.1 nx) := ⟨HA1.out⟩
          have HZ2 : Aside0 (Below w.heap.size w w1.drew) := ⟨HZ1.out.drew⟩
          have HK2 : Aside0 (KeepBut wp w1.drew g none) := ⟨HK1.out⟩
          have HF2 : Aside0 (kH.R 46 w1.drew wp.heap.size (fun k => wp.heap.size ≤ k) (.slice (some ⟨bF, 0, none⟩) N cF) hs) := ⟨Kd.R_drew HF1.out⟩
          have HC2 : Aside0 (CodeQ w1.drew wp.heap.size hs s.2.2 N (.slice none 0 0)) := ⟨HC1.out.below (below_drew (Below.refl _ _))⟩
          clear heb hs6 h4 HA1 HZ1 HK1 HF1 HC1
          obtain ⟨we, hw2⟩ : ∃ we, we = w1.drew := ⟨_, rfl⟩
          rw [← hw2] at HA2 HZ2 HK2 HF2 HC2 ⊢
          clear hw2
          have HD : Aside0 (decR bs = if s.1 = bs.length then .ok (G, withCode (hsOf bs N) s.2.2) else .error (22, s.1)) := ⟨by unfold decR; rw [if_pos HMg.out, if_pos (show 6 ≤ bs.length by have := L6.out; omega), if_pos (show 7 ≤ bs.length by have := L7.out; omega), ← HGv.out, if_pos H1.out, if_pos (show 9 ≤ bs.length by have := L9.out; omega), HCn.out, if_pos H2.out, Int.toNat_natCast, HRh.out]; dsimp only; rw [← HFs.out, HRf.out]⟩
          cases eb with
          | false =>
            replace he : e = .panicked [{ v := stopV 22 nx, recovered := false }] := he
            subst he
            have HE : Aside0 (decR bs = .error (22, (nx : Int))) := ⟨by rw [HD.out, if_neg (by rw [← HNx.out, ← Hn.out]; have := HEb.out; rw [beq_eq_false_iff_ne] at this; omega), HNx.out]⟩
            have Q2 := Aside0.mk (HK2.out.blk P2.out N2.out (by simp))
            have Q3 := Aside0.mk (HK2.out.blk P3.out N3.out (by simp))
            have Q4 := Aside0.mk (HK2.out.blk P4.out N4.out (by simp))
            have QZ := Aside0.mk (HZ2.out)
            go_wp2_with fail
            refine leaves_cons (f := 41) (args := #[.pointer (some ⟨g2, 0, none⟩), .pointer (some ⟨g3, 0, none⟩), .pointer (some ⟨g4, 0, none⟩)]) (by simp) (by simp [go_sem]) ?_
            refine (catchD_stop g2 g3 g4 0 0 (22) ((nx : Int)) (.slice none 0 0) we Q2.out Q3.out ⟨0, Q4.out⟩).mono ?_
            rintro e u' w'' ⟨rfl, rfl, hst⟩
            have r0 : w''.cell? ⟨g2, 0, none⟩ = some (.int .i64 0) := (blk_cell hst.1 0).trans rfl
            have r1 : w''.cell? ⟨g2, 1, none⟩ = some (.slice none 0 0) := (blk_cell hst.1 1).trans rfl
            have r2 : w''.cell? ⟨g3, 0, none⟩ = some (.int .i64 (22)) := (blk_cell hst.2.1 0).trans rfl
            have r3 : w''.cell? ⟨g4, 0, none⟩ = some (.int .i64 ((nx : Int))) := (blk_cell hst.2.2.1 0).trans rfl
            have HPo : Aside0 (DecPost w bs (.returned (.tuple #[.agg #[.int .i64 0, .slice none 0 0], .int .i64 (22), .int .i64 ((nx : Int))])) w'') := ⟨by unfold DecPost decOut; rw [HE.out]; exact ⟨.slice none 0 0, rfl, Kd.R_nil _ _ _ _ _, hst.2.2.2 w QZ.out G2.out G3.out G4.out⟩⟩
            clear hst Q2 Q3 Q4 QZ HE
            simp [Leaves, settle, results, Tryd.results24, go_sem, r0, r1, r2, r3]
            exact HPo.out
          | true =>
            replace he : e = .returned (.tuple #[]) := he
            subst he
            have HE : Aside0 (decR bs = .ok (G, withCode (hsOf bs N) s.2.2)) := ⟨by rw [HD.out, if_pos (by rw [← HNx.out, ← Hn.out]; have := HEb.out; rw [beq_iff_eq] at this; omega)]⟩
            have Q2 := Aside0.mk (HK2.out.blk P2.out N2.out (by simp))
            have Q3 := Aside0.mk (HK2.out.blk P3.out N3.out (by simp))
            have Q4 := Aside0.mk (HK2.out.blk P4.out N4.out (by simp))
            have c0 : we.cell? ⟨g, 0, none⟩ = some (.int .i64 G) := HA2.out.c0
            have c1 : we.cell? ⟨g, 1, none⟩ = some (.slice (some ⟨bF, 0, none⟩) N cF) := HA2.out.c1
            have d0 : we.cell? ⟨g2, 0, none⟩ = some (.int .i64 0) := (blk_cell Q2.out 0).trans rfl
            have d1 : we.cell? ⟨g2, 1, none⟩ = some (.slice none 0 0) := (blk_cell Q2.out 1).trans rfl
            have d2 := blk_frozen Q2.out 0
            have d3 := blk_frozen Q2.out 1
            have d4 : we.cell? ⟨g3, 0, none⟩ = some (.int .i64 0) := (blk_cell Q3.out 0).trans rfl
            have d5 := blk_frozen Q3.out 0
            have d6 : we.cell? ⟨g4, 0, none⟩ = some (.int .i64 0) := (blk_cell Q4.out 0).trans rfl
            have d7 := blk_frozen Q4.out 0
            have n1 : g3 ≠ g2 := blk_ne_ty Q3.out Q2.out (by decide)
            have n2 : g4 ≠ g2 := blk_ne_ty Q4.out Q2.out (by decide)
            have n3 : g4 ≠ g3 := blk_ne_ty Q4.out Q3.out (by decide)
            have n4 : ¬ g2 = g3 := fun e => n1 e.symm
            have n5 : ¬ g2 = g4 := fun e => n2 e.symm
            have n6 : ¬ g3 = g4 := fun e => n3 e.symm
            go_wp2_with fail
            clear c0 c1 d0 d1 d2 d3 d4 d5 d6 d7
            have L2 := blk_lt P2.out
            have L3 := blk_lt P3.out
            have L4 := blk_lt P4.out
            have f1 : (we.setCell ⟨g2, 0, none⟩ (.int .i64 G)).heap[g2]? = some (.cells #[.int .i64 G, .slice none 0 0] 24 (0, 0)) := (blk_set Q2.out 0 _).trans rfl
            have f2 : ((we.setCell ⟨g2, 0, none⟩ (.int .i64 G)).setCell ⟨g2, 1, none⟩ (.slice (some ⟨bF, 0, none⟩) N cF)).heap[g2]? = some (.cells #[.int .i64 G, .slice (some ⟨bF, 0, none⟩) N cF] 24 (0, 0)) := (blk_set f1 1 _).trans rfl
            have R2 : Aside0 (((((we.setCell ⟨g2, 0, none⟩ (.int .i64 G)).setCell ⟨g2, 1, none⟩ (.slice (some ⟨bF, 0, none⟩) N cF)).setCell ⟨g3, 0, none⟩ (.int .i64 0)).setCell ⟨g4, 0, none⟩ (.int .i64 0)).heap[g2]? = some (.cells #[.int .i64 G, .slice (some ⟨bF, 0, none⟩) N cF] 24 (0, 0))) := ⟨by rw [Below.heap_setCell _ _ _ _ n5, Below.heap_setCell _ _ _ _ n4]; exact f2⟩
            have f3 : (((we.setCell ⟨g2, 0, none⟩ (.int .i64 G)).setCell ⟨g2, 1, none⟩ (.slice (some ⟨bF, 0, none⟩) N cF)).setCell ⟨g3, 0, none⟩ (.int .i64 0)).heap[g3]? = some (.cells #[.int .i64 0] 27 (0, 0)) := (blk_set (by rw [Below.heap_setCell _ _ _ _ n1, Below.heap_setCell _ _ _ _ n1]; exact Q3.out) 0 _).trans rfl
            have R3 : Aside0 (((((we.setCell ⟨g2, 0, none⟩ (.int .i64 G)).setCell ⟨g2, 1, none⟩ (.slice (some ⟨bF, 0, none⟩) N cF)).setCell ⟨g3, 0, none⟩ (.int .i64 0)).setCell ⟨g4, 0, none⟩ (.int .i64 0)).heap[g3]? = some (.cells #[.int .i64 0] 27 (0, 0))) := ⟨by rw [Below.heap_setCell _ _ _ _ n6]; exact f3⟩
            have R4 : Aside0 (((((we.setCell ⟨g2, 0, none⟩ (.int .i64 G)).setCell ⟨g2, 1, none⟩ (.slice (some ⟨bF, 0, none⟩) N cF)).setCell ⟨g3, 0, none⟩ (.int .i64 0)).setCell ⟨g4, 0, none⟩ (.int .i64 0)).heap[g4]? = some (.cells #[.int .i64 0] 3 (0, 0))) := ⟨(blk_set (by rw [Below.heap_setCell _ _ _ _ n3, Below.heap_setCell _ _ _ _ n2, Below.heap_setCell _ _ _ _ n2]; exact Q4.out) 0 _).trans rfl⟩
            have HPr := to_prog HF2.out HC2.out HIn.out.1
            rw [withCode_eq s.2.2 (HFe.out.trans HFs.out)] at HPr
            have HR : Aside0 (k46.R 46 ((((we.setCell ⟨g2, 0, none⟩ (.int .i64 G)).setCell ⟨g2, 1, none⟩ (.slice (some ⟨bF, 0, none⟩) N cF)).setCell ⟨g3, 0, none⟩ (.int .i64 0)).setCell ⟨g4, 0, none⟩ (.int .i64 0)) w.heap.size (fun k => w.heap.size ≤ k) (.slice (some ⟨bF, 0, none⟩) N cF) (withCode (hsOf bs N) s.2.2)) := ⟨Kd.R_lower (Kd.R_mono (Kd.R_far (Kd.R_far (Kd.R_far (Kd.R_far HPr (fun k hk => by show k ≠ g2; omega) _) (fun k hk => by show k ≠ g2; omega) _) (fun k hk => by show k ≠ g3; omega) _) (fun k hk => by show k ≠ g4; omega) _) (fun k hk => Nat.le_trans HZp.out.size hk)) HZp.out.size⟩
            have HZ9 : Aside0 (Below w.heap.size w ((((we.setCell ⟨g2, 0, none⟩ (.int .i64 G)).setCell ⟨g2, 1, none⟩ (.slice (some ⟨bF, 0, none⟩) N cF)).setCell ⟨g3, 0, none⟩ (.int .i64 0)).setCell ⟨g4, 0, none⟩ (.int .i64 0))) := ⟨below_set (below_set (below_set (below_set HZ2.out G2.out) G2.out) G3.out) G4.out⟩
            obtain ⟨wf, hwf⟩ : ∃ wf, wf = ((((we.setCell ⟨g2, 0, none⟩ (.int .i64 G)).setCell ⟨g2, 1, none⟩ (.slice (some ⟨bF, 0, none⟩) N cF)).setCell ⟨g3, 0, none⟩ (.int .i64 0)).setCell ⟨g4, 0, none⟩ (.int .i64 0)) := ⟨_, rfl⟩
            rw [← hwf] at R2 R3 R4 HR HZ9 ⊢
            clear hwf f1 f2 f3 HPr L2 L3 L4 n1 n2 n3 n4 n5 n6 Q2 Q3 Q4 HF2 HC2 HZ2 HK2 HA2
            refine leaves_cons (f := 41) (args := #[.pointer (some ⟨g2, 0, none⟩), .pointer (some ⟨g3, 0, none⟩), .pointer (some ⟨g4, 0, none⟩)]) (by simp) (by simp [go_sem]) ?_
            refine (catchD_idle g2 g3 g4 wf).mono ?_
            rintro e u' w'' ⟨rfl, rfl, hst⟩
            have r0 : w''.cell? ⟨g2, 0, none⟩ = some (.int .i64 G) := (blk_cell (by rw [hst]; exact blk_alloc R2.out _) 0).trans rfl
            have r1 : w''.cell? ⟨g2, 1, none⟩ = some (.slice (some ⟨bF, 0, none⟩) N cF) := (blk_cell (by rw [hst]; exact blk_alloc R2.out _) 1).trans rfl
            have r2 : w''.cell? ⟨g3, 0, none⟩ = some (.int .i64 0) := (blk_cell (by rw [hst]; exact blk_alloc R3.out _) 0).trans rfl
            have r3 : w''.cell? ⟨g4, 0, none⟩ = some (.int .i64 0) := (blk_cell (by rw [hst]; exact blk_alloc R4.out _) 0).trans rfl
            have HPo : Aside0 (DecPost w bs (.returned (.tuple #[.agg #[.int .i64 G, .slice (some ⟨bF, 0, none⟩) N cF], .int .i64 0, .int .i64 0])) w'') := ⟨by unfold DecPost decOut; rw [HE.out, hst]; exact ⟨_, rfl, Kd.R_alloc HR.out _, HZ9.out.alloc HZ9.out.size _⟩⟩
            clear hst
            simp [Leaves, settle, results, Tryd.results24, go_sem, r0, r1, r2, r3]
            exact HPo.out
        have hwp : wrap64 ((q : Int) + 1) = (q : Int) + 1 := wrap_in (by have := HNr.out; omega) (by have := HNr.out; omega)
        have HW1 := Aside0.mk hwp
        have q0 : (0 : Int) ≤ (q : Int) := Int.natCast_nonneg q
        have q1 : (q : Int) < (N : Int) := Int.ofNat_lt.mpr hlt
        have HLt := Aside0.mk hlt
        have hs1 : wr.cell? ⟨g, 1, none⟩ = some (.slice (some ⟨bF, 0, none⟩) N cF) := HAf.out.c1
        have hsz := sz_cell HSf.out q hlt
        have HMr := Aside0.mk (HRn2.out.2.2 q hlt)
        obtain ⟨m, hm9⟩ : ∃ m, m = hvN bs (9 + 5 * q) := ⟨_, rfl⟩
        have HMv := Aside0.mk hm9
        rw [← hm9] at hsz HMr
        obtain ⟨M, rfl⟩ : ∃ M : Nat, m = (M : Int) := ⟨m.toNat, by have := HMr.out; omega⟩
        clear hm9 hwp
        go_wp2_with fail
        have HHl : Aside0 (hs.length = N) := ⟨((Kd.R_reads' HFf.out).1).symm⟩
        have HAt := Aside0.mk (fs_heads (HFe.out.trans HFs.out) q (by rw [HHl.out]; exact HLt.out) (by rw [hsOf_len]; exact HLt.out))
        rw [hs_at bs N q HLt.out] at HAt
        have HStp := Aside0.mk (runE_next HRf.out)
        obtain ⟨R, hR⟩ : ∃ R, R = (hvOf bs (9 + 5 * q)).R := ⟨_, rfl⟩
        obtain ⟨V, hV⟩ : ∃ V, V = (hvOf bs (9 + 5 * q)).V := ⟨_, rfl⟩
        have HRv := Aside0.mk hR
        have HVv := Aside0.mk hV
        rw [← hR, ← hV] at HAt
        have HStq : Aside0 (funcStep G fs bs q s = match runE (codeStep G fs R V (M : Int) bs) (s.1, s.2.1, []) M with | .error e => .error e | .ok t => .ok (t.1, t.2.1, s.2.2 ++ [t.2.2])) := ⟨by unfold funcStep; rw [← HMv.out, ← hR, ← hV, Int.toNat_natCast]; rfl⟩
        clear hR hV hs1 hsz q0 q1
        go_loopw [92] (fun v92 w' => ∃ (k3 : Nat) (t : Nat × Int × List S50) (vq : Value) (hs2 : List HV) (a : Int), k3 ≤ M ∧ v92 = .int .i64 (k3 : Int) ∧ Aside0 (runE (codeStep G fs R V (M : Int) bs) (s.1, s.2.1, []) k3 = .ok t) ∧ Aside0 (AskW w' g 80 (rdR A bs.length c (t.1 : Int)) G (some ⟨bF, 0, none⟩) N cF B t.2.1 a) ∧ Aside0 (kH.R 46 w' wp.heap.size (fun k => wp.heap.size ≤ k) (.slice (some ⟨bF, 0, none⟩) N cF) hs2) ∧ Aside0 ((hs2.getD q hv0).c = vq) ∧ Aside0 (fsOf hs2 = fs) ∧ Aside0 (∀ i, q + 1 ≤ i → i < N → (hs2.getD i hv0).c = .slice none 0 0) ∧ Aside0 (CodeQ w' wp.heap.size hs2 s.2.2 q vq) ∧ Aside0 (k50.R 50 w' wp.heap.size (fun k => wp.heap.size ≤ k) vq t.2.2) ∧ Aside0 (kI.R 3 w' wp.heap.size (fun k => wp.heap.size ≤ k) (.slice (some ⟨bS, 0, none⟩) N cS) (szOf bs N)) ∧ Aside0 (t.2.2.length = k3 ∧ t.1 ≤ bs.length ∧ 0 ≤ t.2.1 ∧ t.2.1 < 1048576) ∧ Aside0 (Below w.heap.size w w') ∧ Aside0 (KeepBut wp w' g none)) (fun i _ => M - (intOf i).toNat)
        case atStart => exact ⟨0, (s.1, s.2.1, []), .slice none 0 0, hs, a, Nat.zero_le _, rfl, ⟨rfl⟩, HAf, HFf, ⟨HNil.out q (Nat.le_refl _) HLt.out⟩, HFe, ⟨fun i h1 h2 => HNil.out i (by omega) h2⟩, HCq, ⟨Kd.R_nil _ _ _ _ _⟩, HSf, ⟨rfl, HIn.out.2.1, HIn.out.2.2.1, HIn.out.2.2.2⟩, HZf, HKf⟩
        case round =>
          obtain ⟨k3, t, vq, hs2, a2, hk3, rfl, HRk, HAk, HFk, HCk, HEk, HNk, HQk, HXk, HSk, HIk, HZk, HKk⟩ := hrel
          clear HAf HFf HFe HNil HCq HSf HZf HKf HHl HAt
          by_cases hlt3 : k3 < M
          rotate_left
          · obtain rfl : M = k3 := by omega
            have HSt2 : Aside0 (runE (funcStep G fs bs) (9 + 5 * N, l, []) (q + 1) = .ok (t.1, t.2.1, s.2.2 ++ [t.2.2])) := ⟨by rw [HStp.out, HStq.out, HRk.out]⟩
            have HC2 : Aside0 (CodeQ wr wp.heap.size hs2 (s.2.2 ++ [t.2.2]) (q + 1) (.slice none 0 0)) := ⟨CodeQ.next HQk.out HXk.out HCk.out HIn.out.1⟩
            have HI2 : Aside0 ((s.2.2 ++ [t.2.2]).length = q + 1 ∧ t.1 ≤ bs.length ∧ 0 ≤ t.2.1 ∧ t.2.1 < 1048576) := ⟨by rw [List.length_append, HIn.out.1]; rfl, HIk.out.2.1, HIk.out.2.2.1, HIk.out.2.2.2⟩
            have hwp := HW1.out
            clear hlt3 hk3
            go_wp2_with fail
            go_roundw
            case rel => exact ⟨q + 1, (t.1, t.2.1, s.2.2 ++ [t.2.2]), hs2, a2, Nat.succ_le_of_lt HLt.out, by go_num, HSt2, HAk, HFk, HEk, HNk, HC2, HSk, HI2, HZk, HKk⟩
            case measure => rw [hwp]; exact Nat.sub_lt_sub_left (show q < N from HLt.out) (show q < q + 1 from Nat.lt_succ_self q)
          have hwp2 : wrap64 ((k3 : Int) + 1) = (k3 : Int) + 1 := wrap_in (by have := HMr.out; omega) (by have := HMr.out; omega)
          have hwm : wrap64 ((M : Int) - 1) = (M : Int) - 1 := wrap_in (by have := HMr.out; omega) (by have := HMr.out; omega)
          have k0 : (0 : Int) ≤ (k3 : Int) := Int.natCast_nonneg k3
          have k1 : (k3 : Int) < (M : Int) := Int.ofNat_lt.mpr hlt3
          have q0 : (0 : Int) ≤ (q : Int) := Int.natCast_nonneg q
          have q1 : (q : Int) < (N : Int) := Int.ofNat_lt.mpr HLt.out
          have HLt3 := Aside0.mk hlt3
          obtain ⟨lb, hlb⟩ : ∃ lb, ((k3 : Int) == (M : Int) - 1) = lb := ⟨_, rfl⟩
          have HLb := Aside0.mk hlb
          obtain ⟨Aq, cq, hvq⟩ := Kd.R_slice HXk.out
          subst hvq
          rw [HIk.out.1] at HXk HCk HQk
          have HCell := Aside0.mk (kH_at HFk.out q HLt.out)
          have hs0 := HCell.out.2.2.2.1
          rw [HCk.out] at hs0
          have hsz := sz_cell HSk.out q HLt.out
          rw [← HMv.out] at hsz
          have HHl2 : Aside0 (hs2.length = N) := ⟨((Kd.R_reads' HFk.out).1).symm⟩
          have HAt2 := Aside0.mk (fs_heads (HEk.out.trans HFs.out) q (by rw [HHl2.out]; exact HLt.out) (by rw [hsOf_len]; exact HLt.out))
          rw [hs_at bs N q HLt.out, ← HRv.out, ← HVv.out] at HAt2
          have HIns := Aside0.mk (instr_rd g ⟨bF, q * 4, none⟩ R V (M : Int) fs lb G (some ⟨bF, 0, none⟩) cF B t.2.1 a2 A c bs t.1 w wr.drew HZk.out.drew G15.out (by rw [HFl.out]; exact HAk.out) HBs.out HIk.out.2.1 HBy.out HIk.out.2.2.1 HIk.out.2.2.2 HbF.out (by rw [← HAt2.out.2.1]; exact HCell.out.2.1) (by rw [← HAt2.out.2.2]; exact HCell.out.2.2.1) (HEk.out ▸ kH_heads (Kd.R_drew HFk.out)) (fun ad he => by injection he with he; subst he; exact HbF.out) HT.out (OpsAt.keep (w' := wr.drew) HOp.out HKk.out HBg.out HAp.out) HBg.out)
          have HStk := Aside0.mk (runE_next HRk.out)
          have HCs : Aside0 (codeStep G fs R V (M : Int) bs k3 t = match instrR G fs R V (M : Int) bs lb t.1 t.2.1 with | .error e => .error e | .ok t2 => .ok (t2.2.1, t2.2.2, t.2.2 ++ [t2.1])) := ⟨by unfold codeStep; rw [hlb]; rfl⟩
          have HIo : Aside0 (∀ x, instrR G fs R V (M : Int) bs lb t.1 t.2.1 = .ok x → x.2.1 ≤ bs.length ∧ 0 ≤ x.2.2 ∧ x.2.2 < 1048576) := ⟨fun x hx => instrR_ok HBy.out ⟨HIk.out.2.2.1, HIk.out.2.2.2⟩ hx⟩
          have HHX : Aside0 (∀ k_, (Value.slice Aq k3 cq).ownBlock = some k_ → k_ < wr.heap.size) := ⟨Kd.R_lt HXk.out⟩
          have HW2 := Aside0.mk hwp2
          clear hwp2 hlt3 hk3
          go_wp2_with fail
          clear q0 q1 k0 k1
          generalize hres : instrR G fs R V (M : Int) bs lb t.1 t.2.1 = res at HIns HCs HIo
          cases res with
          | error er =>
            have HIe : Aside0 (Calls Tryd.prog 47 #[.pointer (some ⟨g, 0, none⟩), .pointer (some ⟨bF, q * 4, none⟩), .int .i64 (M : Int), .bool lb] wr.drew fun e w'' => e = .panicked [{ v := stopV er.1 er.2, recovered := false }] ∧ Below w.heap.size w w'' ∧ KeepBut wr.drew w'' g none) := ⟨HIns.out.mono fun e w'' h => ⟨h.2.2, h.1, h.2.1⟩⟩
            refine wp_defq ?_
            refine start_ (n := 24) (S := fun w' => w'.cell? ⟨bF, q * 4 + 3, none⟩ = some (.slice Aq k3 cq) ∧ w'.cell? ⟨bS, q, none⟩ = some (.int .i64 (M : Int))) (ds := []) #[false, false, false, false, false, false, false, false, false, false, false, false, false, false, false, false, false, false, false, false, false, false, false, false] (by kernel_rfl) rfl rfl ⟨hs0, hsz⟩ (fun hHeld => ?_)
            refine with_tabW TAB_24.tab23 TAB_24.bits23 (fun HT_ HW_ => ?_)
            refine pure_ (i := 0) (N := some 95) (v := ?_) (a' := ?_) #[true, false, false, false, false, false, false, false, false, false, false, false, false, false, false, false, false, false, false, false, false, false, false, false] rfl rfl (any_of HT_.out (by kernel_rfl)) (fun _ _ _ h => DefQ.put h) (Or.inl ⟨by rfl, ?_⟩) ?_ ?_
            rotate_left
            · intro w'
              go_simp
              with_reducible rfl
            rotate_left
            · simp only [Act.put, List.setIfInBounds_toArray, List.set_cons_zero, List.set_cons_succ, i64_w, i32_w]
              rfl
            refine pure_ (i := 1) (N := some 96) (v := ?_) (a' := ?_) #[true, true, false, false, false, false, false, false, false, false, false, false, false, false, false, false, false, false, false, false, false, false, false, false] rfl rfl (any_of HT_.out (by kernel_rfl)) (fun _ _ _ h => DefQ.put h) (Or.inl ⟨by rfl, ?_⟩) ?_ ?_
            rotate_left
            · intro w'
              go_simp
              with_reducible rfl
            rotate_left
            · simp only [Act.put, List.setIfInBounds_toArray, List.set_cons_zero, List.set_cons_succ, i64_w, i32_w]
              rfl
            refine pure_ (i := 2) (N := some 97) (v := ?_) (a' := ?_) #[true, true, true, false, false, false, false, false, false, false, false, false, false, false, false, false, false, false, false, false, false, false, false, false] rfl rfl (any_of HT_.out (by kernel_rfl)) (fun _ _ _ h => DefQ.put h) (Or.inl ⟨by rfl, ?_⟩) ?_ ?_
            rotate_left
            · intro w'
              go_simp
              with_reducible rfl
            rotate_left
            · simp only [Act.put, List.setIfInBounds_toArray, List.set_cons_zero, List.set_cons_succ, i64_w, i32_w]
              rfl
            refine pure_ (i := 3) (N := some 98) (v := ?_) (a' := ?_) #[true, true, true, true, false, false, false, false, false, false, false, false, false, false, false, false, false, false, false, false, false, false, false, false] rfl rfl (any_of HT_.out (by kernel_rfl)) (fun _ _ _ h => DefQ.put h) (Or.inl ⟨by rfl, ?_⟩) ?_ ?_
            rotate_left
            · intro w'
              go_simp
              with_reducible rfl
            rotate_left
            · simp only [Act.put, List.setIfInBounds_toArray, List.set_cons_zero, List.set_cons_succ, i64_w, i32_w]
              rfl
            refine pure_ (i := 5) (N := some 100) (v := ?_) (a' := ?_) #[true, true, true, true, false, true, false, false, false, false, false, false, false, false, false, false, false, false, false, false, false, false, false, false] rfl rfl (any_of HT_.out (by kernel_rfl)) (fun _ _ _ h => DefQ.put h) (Or.inl ⟨by rfl, ?_⟩) ?_ ?_
            rotate_left
            · intro w'
              go_simp
              with_reducible rfl
            rotate_left
            · simp only [Act.put, List.setIfInBounds_toArray, List.set_cons_zero, List.set_cons_succ, i64_w, i32_w]
              rfl
            refine pure_ (i := 6) (N := some 101) (v := ?_) (a' := ?_) #[true, true, true, true, false, true, true, false, false, false, false, false, false, false, false, false, false, false, false, false, false, false, false, false] rfl rfl (any_of HT_.out (by kernel_rfl)) (fun _ _ _ h => DefQ.put h) (Or.inl ⟨by rfl, ?_⟩) ?_ ?_
            rotate_left
            · intro w'
              go_simp
              with_reducible rfl
            rotate_left
            · simp only [Act.put, List.setIfInBounds_toArray, List.set_cons_zero, List.set_cons_succ, i64_w, i32_w]
              rfl
            refine pure_ (i := 7) (N := some 102) (v := ?_) (a' := ?_) #[true, true, true, true, false, true, true, true, false, false, false, false, false, false, false, false, false, false, false, false, false, false, false, false] rfl rfl (any_of HT_.out (by kernel_rfl)) (fun _ _ _ h => DefQ.put h) (Or.inl ⟨by rfl, ?_⟩) ?_ ?_
            rotate_left
            · intro w'
              go_simp
              with_reducible rfl
            rotate_left
            · simp only [Act.put, List.setIfInBounds_toArray, List.set_cons_zero, List.set_cons_succ, i64_w, i32_w]
              rfl
            refine pure_ (i := 8) (N := some 103) (v := ?_) (a' := ?_) #[true, true, true, true, false, true, true, true, true, false, false, false, false, false, false, false, false, false, false, false, false, false, false, false] rfl rfl (any_of HT_.out (by kernel_rfl)) (fun _ _ _ h => DefQ.put h) (Or.inl ⟨by rfl, ?_⟩) ?_ ?_
            rotate_left
            · intro w'
              go_simp
              with_reducible rfl
            rotate_left
            · simp only [Act.put, List.setIfInBounds_toArray, List.set_cons_zero, List.set_cons_succ, i64_w, i32_w]
              rfl
            refine pure_ (i := 9) (N := some 104) (v := ?_) (a' := ?_) #[true, true, true, true, false, true, true, true, true, true, false, false, false, false, false, false, false, false, false, false, false, false, false, false] rfl rfl (any_of HT_.out (by kernel_rfl)) (fun _ _ _ h => DefQ.put h) (Or.inl ⟨by rfl, ?_⟩) ?_ ?_
            rotate_left
            · intro w'
              go_simp
              with_reducible rfl
            rotate_left
            · simp only [Act.put, List.setIfInBounds_toArray, List.set_cons_zero, List.set_cons_succ, i64_w, i32_w]
              rfl
            refine pure_ (i := 11) (N := some 106) (v := ?_) (a' := ?_) #[true, true, true, true, false, true, true, true, true, true, false, true, false, false, false, false, false, false, false, false, false, false, false, false] rfl rfl (any_of HT_.out (by kernel_rfl)) (fun _ _ _ h => DefQ.put h) (Or.inl ⟨by rfl, ?_⟩) ?_ ?_
            rotate_left
            · intro w'
              go_simp
              with_reducible rfl
            rotate_left
            · simp only [Act.put, List.setIfInBounds_toArray, List.set_cons_zero, List.set_cons_succ, i64_w, i32_w]
              rfl
            refine pure_ (i := 12) (N := some 107) (v := ?_) (a' := ?_) #[true, true, true, true, false, true, true, true, true, true, false, true, true, false, false, false, false, false, false, false, false, false, false, false] rfl rfl (any_of HT_.out (by kernel_rfl)) (fun _ _ _ h => DefQ.put h) (Or.inl ⟨by rfl, ?_⟩) ?_ ?_
            rotate_left
            · intro w'
              go_simp
              with_reducible rfl
            rotate_left
            · simp only [Act.put, List.setIfInBounds_toArray, List.set_cons_zero, List.set_cons_succ, i64_w, i32_w]
              rfl
            refine pure_ (i := 13) (N := some 108) (v := ?_) (a' := ?_) #[true, true, true, true, false, true, true, true, true, true, false, true, true, true, false, false, false, false, false, false, false, false, false, false] rfl rfl (any_of HT_.out (by kernel_rfl)) (fun _ _ _ h => DefQ.put h) (Or.inl ⟨by rfl, ?_⟩) ?_ ?_
            rotate_left
            · intro w'
              go_simp
              with_reducible rfl
            rotate_left
            · simp only [Act.put, List.setIfInBounds_toArray, List.set_cons_zero, List.set_cons_succ, i64_w, i32_w]
              rfl
            refine pure_ (i := 14) (N := some 109) (v := ?_) (a' := ?_) #[true, true, true, true, false, true, true, true, true, true, false, true, true, true, true, false, false, false, false, false, false, false, false, false] rfl rfl (any_of HT_.out (by kernel_rfl)) (fun _ _ _ h => DefQ.put h) (Or.inl ⟨by rfl, ?_⟩) ?_ ?_
            rotate_left
            · intro w'
              go_simp
              with_reducible rfl
            rotate_left
            · simp only [Act.put, List.setIfInBounds_toArray, List.set_cons_zero, List.set_cons_succ, i64_w, i32_w]
              rfl
            refine take_ (i := 4) (N := some 99) (v := ?_) (a' := ?_) #[true, true, true, true, true, true, true, true, true, true, false, true, true, true, true, false, false, false, false, false, false, false, false, false] rfl rfl (take_ofW HT_.out HW_.out (by kernel_rfl)) (fun _ _ _ h => DefQ.put h) (Or.inl ⟨by rfl, ?_⟩) hHeld ?_ ?_
            rotate_left
            · rintro w' ⟨s0, s1⟩
              go_simp
              with_reducible rfl
            rotate_left
            · simp only [Act.put, List.setIfInBounds_toArray, List.set_cons_zero, List.set_cons_succ, i64_w, i32_w]
              rfl
            refine take_ (i := 10) (N := some 105) (v := ?_) (a' := ?_) #[true, true, true, true, true, true, true, true, true, true, true, true, true, true, true, false, false, false, false, false, false, false, false, false] rfl rfl (take_ofW HT_.out HW_.out (by kernel_rfl)) (fun _ _ _ h => DefQ.put h) (Or.inl ⟨by rfl, ?_⟩) hHeld ?_ ?_
            rotate_left
            · rintro w' ⟨s0, s1⟩
              go_simp
              with_reducible rfl
            rotate_left
            · simp only [Act.put, List.setIfInBounds_toArray, List.set_cons_zero, List.set_cons_succ, i64_w, i32_w]
              rfl
            refine take_ (i := 15) (N := some 110) (v := ?_) (a' := ?_) #[true, true, true, true, true, true, true, true, true, true, true, true, true, true, true, true, false, false, false, false, false, false, false, false] rfl rfl (take_ofW HT_.out HW_.out (by kernel_rfl)) (fun _ _ _ h => DefQ.put h) (Or.inl ⟨by rfl, ?_⟩) hHeld ?_ ?_
            rotate_left
            · rintro w' ⟨s0, s1⟩
              go_simp
              with_reducible rfl
            rotate_left
            · simp only [Act.put, List.setIfInBounds_toArray, List.set_cons_zero, List.set_cons_succ, i64_w, i32_w]
              rfl
            refine pure_ (i := 16) (N := some 111) (v := ?_) (a' := ?_) #[true, true, true, true, true, true, true, true, true, true, true, true, true, true, true, true, true, false, false, false, false, false, false, false] rfl rfl (any_of HT_.out (by kernel_rfl)) (fun _ _ _ h => DefQ.put h) (Or.inl ⟨by rfl, ?_⟩) ?_ ?_
            rotate_left
            · intro w'
              go_simp
              with_reducible rfl
            rotate_left
            · simp only [Act.put, List.setIfInBounds_toArray, List.set_cons_zero, List.set_cons_succ, i64_w, i32_w]
              rfl
            refine pure_ (i := 17) (N := some 112) (v := ?_) (a' := ?_) #[true, true, true, true, true, true, true, true, true, true, true, true, true, true, true, true, true, true, false, false, false, false, false, false] rfl rfl (any_of HT_.out (by kernel_rfl)) (fun _ _ _ h => DefQ.put h) (Or.inl ⟨by rfl, ?_⟩) ?_ ?_
            rotate_left
            · intro w'
              go_simp
              with_reducible rfl
            rotate_left
            · simp only [Act.put, List.setIfInBounds_toArray, List.set_cons_zero, List.set_cons_succ, i64_w, i32_w]
              rfl
            refine one_ (i := 18) (N := some 113) #[true, true, true, true, true, true, true, true, true, true, true, true, true, true, true, true, true, true, true, false, false, false, false, false] rfl rfl (one_of HT_.out (by kernel_rfl)) (by decide) (fun K hK => ?_)
            refine goesP_ Tryd.func47 (by kernel_rfl) rfl #[.pointer (some ⟨g, 0, none⟩), .pointer (some ⟨bF, q * 4, none⟩), .int .i64 (M : Int), .bool lb] (by rfl) rfl rfl (by simp only [List.map_toArray, List.map_cons, List.map_nil]; rfl) ?_
            with_reducible refine HIe.out.mono ?_
            rintro e_ wm ⟨rfl, hZ, hK⟩
            refine ⟨_, rfl, ?_⟩
            rintro ⟨T, D⟩ hD ht
            replace hD : D = _ := hD
            subst hD
            have t2 : T[2]?.getD undef = .pointer (some ⟨g2, 0, none⟩) := (ht 2 (by omega)).trans rfl
            have t3 : T[3]?.getD undef = .pointer (some ⟨g3, 0, none⟩) := (ht 3 (by omega)).trans rfl
            have t4 : T[4]?.getD undef = .pointer (some ⟨g4, 0, none⟩) := (ht 4 (by omega)).trans rfl
            clear ht
            have HZm := Aside0.mk hZ
            have HKm2 : Aside0 (KeepBut wp wm g none) := ⟨KeepBut.trans HKk.out hK (.inl rfl)⟩
            clear hZ hK hHeld HT_ HW_ hs0 hsz
            dsimp only
            have HE : Aside0 (decR bs = .error (er.1, er.2)) := ⟨by have hin := runE_err (show runE (codeStep G fs R V (M : Int) bs) (s.1, s.2.1, []) (k3 + 1) = .error er from by rw [HStk.out, HCs.out]) M (by have := HLt3.out; omega); have hou := runE_err (show runE (funcStep G fs bs) (9 + 5 * N, l, []) (q + 1) = .error er from by rw [HStp.out, HStq.out, hin]) N (by have := HLt.out; omega); unfold decR; rw [if_pos HMg.out, if_pos (show 6 ≤ bs.length by have := L6.out; omega), if_pos (show 7 ≤ bs.length by have := L7.out; omega), ← HGv.out, if_pos H1.out, if_pos (show 9 ≤ bs.length by have := L9.out; omega), HCn.out, if_pos H2.out, Int.toNat_natCast, HRh.out]; dsimp only; rw [← HFs.out, hou]⟩
            have Q2 := Aside0.mk (HKm2.out.blk P2.out N2.out (by simp))
            have Q3 := Aside0.mk (HKm2.out.blk P3.out N3.out (by simp))
            have Q4 := Aside0.mk (HKm2.out.blk P4.out N4.out (by simp))
            have QZ := Aside0.mk (HZm.out)
            go_wp2_with fail
            refine leaves_cons (f := 41) (args := #[.pointer (some ⟨g2, 0, none⟩), .pointer (some ⟨g3, 0, none⟩), .pointer (some ⟨g4, 0, none⟩)]) (by simp) (by simp [go_sem]) ?_
            refine (catchD_stop g2 g3 g4 0 0 (er.1) (er.2) (.slice none 0 0) wm Q2.out Q3.out ⟨0, Q4.out⟩).mono ?_
            rintro e u' w'' ⟨rfl, rfl, hst⟩
            have r0 : w''.cell? ⟨g2, 0, none⟩ = some (.int .i64 0) := (blk_cell hst.1 0).trans rfl
            have r1 : w''.cell? ⟨g2, 1, none⟩ = some (.slice none 0 0) := (blk_cell hst.1 1).trans rfl
            have r2 : w''.cell? ⟨g3, 0, none⟩ = some (.int .i64 (er.1)) := (blk_cell hst.2.1 0).trans rfl
            have r3 : w''.cell? ⟨g4, 0, none⟩ = some (.int .i64 (er.2)) := (blk_cell hst.2.2.1 0).trans rfl
            have HPo : Aside0 (DecPost w bs (.returned (.tuple #[.agg #[.int .i64 0, .slice none 0 0], .int .i64 (er.1), .int .i64 (er.2)])) w'') := ⟨by unfold DecPost decOut; rw [HE.out]; exact ⟨.slice none 0 0, rfl, Kd.R_nil _ _ _ _ _, hst.2.2.2 w QZ.out G2.out G3.out G4.out⟩⟩
            clear hst Q2 Q3 Q4 QZ HE
            simp [Leaves, settle, results, Tryd.results24, go_sem, r0, r1, r2, r3, t2, t3, t4]
            exact HPo.out
          | ok x =>
            have HIe : Aside0 (Calls Tryd.prog 47 #[.pointer (some ⟨g, 0, none⟩), .pointer (some ⟨bF, q * 4, none⟩), .int .i64 (M : Int), .bool lb] wr.drew fun e w'' => (∃ v5 v6, e = .returned (.agg #[.int .i64 x.1.f0, .int .i64 x.1.f1, .int .i64 x.1.f2, .int .i64 x.1.f3, .int .i64 x.1.f4, v5, v6]) ∧ kI.R 3 w'' wr.drew.heap.size (fun k => wr.drew.heap.size ≤ k) v5 x.1.f5 ∧ kI.R 3 w'' wr.drew.heap.size (fun k => wr.drew.heap.size ≤ k) v6 x.1.f6) ∧ (∃ at_, AskW w'' g 80 (rdR A bs.length c (x.2.1 : Int)) G (some ⟨bF, 0, none⟩) N cF B x.2.2 at_) ∧ Below w.heap.size w w'' ∧ KeepBut wr.drew w'' g none) := ⟨HIns.out.mono fun e w'' h => ⟨h.2.2.1, (by have := h.2.2.2; rw [HFl.out] at this; exact this), h.1, h.2.1⟩⟩
            refine wp_defq ?_
            refine start_ (n := 24) (S := fun w' => w'.cell? ⟨bF, q * 4 + 3, none⟩ = some (.slice Aq k3 cq) ∧ w'.cell? ⟨bS, q, none⟩ = some (.int .i64 (M : Int))) (ds := [23]) #[false, false, false, false, false, false, false, false, false, false, false, false, false, false, false, false, false, false, false, false, false, false, false, false] (by kernel_rfl) rfl rfl ⟨hs0, hsz⟩ (fun hHeld => ?_)
            refine with_tabW TAB_24.tab23 TAB_24.bits23 (fun HT_ HW_ => ?_)
            refine pure_ (i := 0) (N := some 95) (v := ?_) (a' := ?_) #[true, false, false, false, false, false, false, false, false, false, false, false, false, false, false, false, false, false, false, false, false, false, false, false] rfl rfl (any_of HT_.out (by kernel_rfl)) (fun _ _ _ h => DefQ.put h) (Or.inl ⟨by rfl, ?_⟩) ?_ ?_
            rotate_left
            · intro w'
              go_simp
              with_reducible rfl
            rotate_left
            · simp only [Act.put, List.setIfInBounds_toArray, List.set_cons_zero, List.set_cons_succ, i64_w, i32_w]
              rfl
            refine pure_ (i := 1) (N := some 96) (v := ?_) (a' := ?_) #[true, true, false, false, false, false, false, false, false, false, false, false, false, false, false, false, false, false, false, false, false, false, false, false] rfl rfl (any_of HT_.out (by kernel_rfl)) (fun _ _ _ h => DefQ.put h) (Or.inl ⟨by rfl, ?_⟩) ?_ ?_
            rotate_left
            · intro w'
              go_simp
              with_reducible rfl
            rotate_left
            · simp only [Act.put, List.setIfInBounds_toArray, List.set_cons_zero, List.set_cons_succ, i64_w, i32_w]
              rfl
            refine pure_ (i := 2) (N := some 97) (v := ?_) (a' := ?_) #[true, true, true, false, false, false, false, false, false, false, false, false, false, false, false, false, false, false, false, false, false, false, false, false] rfl rfl (any_of HT_.out (by kernel_rfl)) (fun _ _ _ h => DefQ.put h) (Or.inl ⟨by rfl, ?_⟩) ?_ ?_
            rotate_left
            · intro w'
              go_simp
              with_reducible rfl
            rotate_left
            · simp only [Act.put, List.setIfInBounds_toArray, List.set_cons_zero, List.set_cons_succ, i64_w, i32_w]
              rfl
            refine pure_ (i := 3) (N := some 98) (v := ?_) (a' := ?_) #[true, true, true, true, false, false, false, false, false, false, false, false, false, false, false, false, false, false, false, false, false, false, false, false] rfl rfl (any_of HT_.out (by kernel_rfl)) (fun _ _ _ h => DefQ.put h) (Or.inl ⟨by rfl, ?_⟩) ?_ ?_
            rotate_left
            · intro w'
              go_simp
              with_reducible rfl
            rotate_left
            · simp only [Act.put, List.setIfInBounds_toArray, List.set_cons_zero, List.set_cons_succ, i64_w, i32_w]
              rfl
            refine pure_ (i := 5) (N := some 100) (v := ?_) (a' := ?_) #[true, true, true, true, false, true, false, false, false, false, false, false, false, false, false, false, false, false, false, false, false, false, false, false] rfl rfl (any_of HT_.out (by kernel_rfl)) (fun _ _ _ h => DefQ.put h) (Or.inl ⟨by rfl, ?_⟩) ?_ ?_
            rotate_left
            · intro w'
              go_simp
              with_reducible rfl
            rotate_left
            · simp only [Act.put, List.setIfInBounds_toArray, List.set_cons_zero, List.set_cons_succ, i64_w, i32_w]
              rfl
            refine pure_ (i := 6) (N := some 101) (v := ?_) (a' := ?_) #[true, true, true, true, false, true, true, false, false, false, false, false, false, false, false, false, false, false, false, false, false, false, false, false] rfl rfl (any_of HT_.out (by kernel_rfl)) (fun _ _ _ h => DefQ.put h) (Or.inl ⟨by rfl, ?_⟩) ?_ ?_
            rotate_left
            · intro w'
              go_simp
              with_reducible rfl
            rotate_left
            · simp only [Act.put, List.setIfInBounds_toArray, List.set_cons_zero, List.set_cons_succ, i64_w, i32_w]
              rfl
            refine pure_ (i := 7) (N := some 102) (v := ?_) (a' := ?_) #[true, true, true, true, false, true, true, true, false, false, false, false, false, false, false, false, false, false, false, false, false, false, false, false] rfl rfl (any_of HT_.out (by kernel_rfl)) (fun _ _ _ h => DefQ.put h) (Or.inl ⟨by rfl, ?_⟩) ?_ ?_
            rotate_left
            · intro w'
              go_simp
              with_reducible rfl
            rotate_left
            · simp only [Act.put, List.setIfInBounds_toArray, List.set_cons_zero, List.set_cons_succ, i64_w, i32_w]
              rfl
            refine pure_ (i := 8) (N := some 103) (v := ?_) (a' := ?_) #[true, true, true, true, false, true, true, true, true, false, false, false, false, false, false, false, false, false, false, false, false, false, false, false] rfl rfl (any_of HT_.out (by kernel_rfl)) (fun _ _ _ h => DefQ.put h) (Or.inl ⟨by rfl, ?_⟩) ?_ ?_
            rotate_left
            · intro w'
              go_simp
              with_reducible rfl
            rotate_left
            · simp only [Act.put, List.setIfInBounds_toArray, List.set_cons_zero, List.set_cons_succ, i64_w, i32_w]
              rfl
            refine pure_ (i := 9) (N := some 104) (v := ?_) (a' := ?_) #[true, true, true, true, false, true, true, true, true, true, false, false, false, false, false, false, false, false, false, false, false, false, false, false] rfl rfl (any_of HT_.out (by kernel_rfl)) (fun _ _ _ h => DefQ.put h) (Or.inl ⟨by rfl, ?_⟩) ?_ ?_
            rotate_left
            · intro w'
              go_simp
              with_reducible rfl
            rotate_left
            · simp only [Act.put, List.setIfInBounds_toArray, List.set_cons_zero, List.set_cons_succ, i64_w, i32_w]
              rfl
            refine pure_ (i := 11) (N := some 106) (v := ?_) (a' := ?_) #[true, true, true, true, false, true, true, true, true, true, false, true, false, false, false, false, false, false, false, false, false, false, false, false] rfl rfl (any_of HT_.out (by kernel_rfl)) (fun _ _ _ h => DefQ.put h) (Or.inl ⟨by rfl, ?_⟩) ?_ ?_
            rotate_left
            · intro w'
              go_simp
              with_reducible rfl
            rotate_left
            · simp only [Act.put, List.setIfInBounds_toArray, List.set_cons_zero, List.set_cons_succ, i64_w, i32_w]
              rfl
            refine pure_ (i := 12) (N := some 107) (v := ?_) (a' := ?_) #[true, true, true, true, false, true, true, true, true, true, false, true, true, false, false, false, false, false, false, false, false, false, false, false] rfl rfl (any_of HT_.out (by kernel_rfl)) (fun _ _ _ h => DefQ.put h) (Or.inl ⟨by rfl, ?_⟩) ?_ ?_
            rotate_left
            · intro w'
              go_simp
              with_reducible rfl
            rotate_left
            · simp only [Act.put, List.setIfInBounds_toArray, List.set_cons_zero, List.set_cons_succ, i64_w, i32_w]
              rfl
            refine pure_ (i := 13) (N := some 108) (v := ?_) (a' := ?_) #[true, true, true, true, false, true, true, true, true, true, false, true, true, true, false, false, false, false, false, false, false, false, false, false] rfl rfl (any_of HT_.out (by kernel_rfl)) (fun _ _ _ h => DefQ.put h) (Or.inl ⟨by rfl, ?_⟩) ?_ ?_
            rotate_left
            · intro w'
              go_simp
              with_reducible rfl
            rotate_left
            · simp only [Act.put, List.setIfInBounds_toArray, List.set_cons_zero, List.set_cons_succ, i64_w, i32_w]
              rfl
            refine pure_ (i := 14) (N := some 109) (v := ?_) (a' := ?_) #[true, true, true, true, false, true, true, true, true, true, false, true, true, true, true, false, false, false, false, false, false, false, false, false] rfl rfl (any_of HT_.out (by kernel_rfl)) (fun _ _ _ h => DefQ.put h) (Or.inl ⟨by rfl, ?_⟩) ?_ ?_
            rotate_left
            · intro w'
              go_simp
              with_reducible rfl
            rotate_left
            · simp only [Act.put, List.setIfInBounds_toArray, List.set_cons_zero, List.set_cons_succ, i64_w, i32_w]
              rfl
            refine take_ (i := 4) (N := some 99) (v := ?_) (a' := ?_) #[true, true, true, true, true, true, true, true, true, true, false, true, true, true, true, false, false, false, false, false, false, false, false, false] rfl rfl (take_ofW HT_.out HW_.out (by kernel_rfl)) (fun _ _ _ h => DefQ.put h) (Or.inl ⟨by rfl, ?_⟩) hHeld ?_ ?_
            rotate_left
            · rintro w' ⟨s0, s1⟩
              go_simp
              with_reducible rfl
            rotate_left
            · simp only [Act.put, List.setIfInBounds_toArray, List.set_cons_zero, List.set_cons_succ, i64_w, i32_w]
              rfl
            refine take_ (i := 10) (N := some 105) (v := ?_) (a' := ?_) #[true, true, true, true, true, true, true, true, true, true, true, true, true, true, true, false, false, false, false, false, false, false, false, false] rfl rfl (take_ofW HT_.out HW_.out (by kernel_rfl)) (fun _ _ _ h => DefQ.put h) (Or.inl ⟨by rfl, ?_⟩) hHeld ?_ ?_
            rotate_left
            · rintro w' ⟨s0, s1⟩
              go_simp
              with_reducible rfl
            rotate_left
            · simp only [Act.put, List.setIfInBounds_toArray, List.set_cons_zero, List.set_cons_succ, i64_w, i32_w]
              rfl
            refine take_ (i := 15) (N := some 110) (v := ?_) (a' := ?_) #[true, true, true, true, true, true, true, true, true, true, true, true, true, true, true, true, false, false, false, false, false, false, false, false] rfl rfl (take_ofW HT_.out HW_.out (by kernel_rfl)) (fun _ _ _ h => DefQ.put h) (Or.inl ⟨by rfl, ?_⟩) hHeld ?_ ?_
            rotate_left
            · rintro w' ⟨s0, s1⟩
              go_simp
              with_reducible rfl
            rotate_left
            · simp only [Act.put, List.setIfInBounds_toArray, List.set_cons_zero, List.set_cons_succ, i64_w, i32_w]
              rfl
            refine pure_ (i := 16) (N := some 111) (v := ?_) (a' := ?_) #[true, true, true, true, true, true, true, true, true, true, true, true, true, true, true, true, true, false, false, false, false, false, false, false] rfl rfl (any_of HT_.out (by kernel_rfl)) (fun _ _ _ h => DefQ.put h) (Or.inl ⟨by rfl, ?_⟩) ?_ ?_
            rotate_left
            · intro w'
              go_simp
              with_reducible rfl
            rotate_left
            · simp only [Act.put, List.setIfInBounds_toArray, List.set_cons_zero, List.set_cons_succ, i64_w, i32_w]
              rfl
            refine pure_ (i := 17) (N := some 112) (v := ?_) (a' := ?_) #[true, true, true, true, true, true, true, true, true, true, true, true, true, true, true, true, true, true, false, false, false, false, false, false] rfl rfl (any_of HT_.out (by kernel_rfl)) (fun _ _ _ h => DefQ.put h) (Or.inl ⟨by rfl, ?_⟩) ?_ ?_
            rotate_left
            · intro w'
              go_simp
              with_reducible rfl
            rotate_left
            · simp only [Act.put, List.setIfInBounds_toArray, List.set_cons_zero, List.set_cons_succ, i64_w, i32_w]
              rfl
            refine one_ (i := 18) (N := some 113) #[true, true, true, true, true, true, true, true, true, true, true, true, true, true, true, true, true, true, true, false, false, false, false, false] rfl rfl (one_of HT_.out (by kernel_rfl)) (by decide) (fun K hK => ?_)
            refine goes_ Tryd.func47 (by kernel_rfl) rfl #[.pointer (some ⟨g, 0, none⟩), .pointer (some ⟨bF, q * 4, none⟩), .int .i64 (M : Int), .bool lb] (by rfl) rfl rfl (by simp only [List.map_toArray, List.map_cons, List.map_nil]; rfl) ?_
            with_reducible refine HIe.out.mono ?_
            rintro e_ wm ⟨⟨v5, v6, rfl, h5, h6⟩, ⟨a3, hA⟩, hZ, hK⟩
            obtain ⟨A5, c5, rfl⟩ := Kd.R_slice h5
            obtain ⟨A6, c6, rfl⟩ := Kd.R_slice h6
            obtain ⟨n5, hn5⟩ : ∃ n5, n5 = x.1.f5.length := ⟨_, rfl⟩
            obtain ⟨n6, hn6⟩ : ∃ n6, n6 = x.1.f6.length := ⟨_, rfl⟩
            rw [← hn5] at h5
            rw [← hn6] at h6
            rw [← hn5, ← hn6]
            have H5 := Aside0.mk h5
            have H6 := Aside0.mk h6
            have HAm := Aside0.mk hA
            have HZm := Aside0.mk hZ
            have HKm2 := Aside0.mk hK
            have HFm : Aside0 (kH.R 46 wm wp.heap.size (fun k => wp.heap.size ≤ k) (.slice (some ⟨bF, 0, none⟩) N cF) hs2) := ⟨Kd.R_keep (Kd.R_drew HFk.out) hK (fun k hk => by have := HGp.out; omega)⟩
            have HXm : Aside0 (k50.R 50 wm wp.heap.size (fun k => wp.heap.size ≤ k) (.slice Aq k3 cq) t.2.2) := ⟨Kd.R_keep (Kd.R_drew HXk.out) hK (fun k hk => by have := HGp.out; omega)⟩
            have HQm : Aside0 (CodeQ wm wp.heap.size hs2 s.2.2 q (.slice Aq k3 cq)) := ⟨(HQk.out.below (below_drew (Below.refl _ _))).keep hK HGp.out⟩
            have HSm : Aside0 (kI.R 3 wm wp.heap.size (fun k => wp.heap.size ≤ k) (.slice (some ⟨bS, 0, none⟩) N cS) (szOf bs N)) := ⟨Kd.R_keep (Kd.R_drew HSk.out) hK (fun k hk => by have := HGp.out; omega)⟩
            have hs0m : wm.cell? ⟨bF, q * 4 + 3, none⟩ = some (.slice Aq k3 cq) := by have := (kH_at HFm.out q HLt.out).2.2.2.1; rwa [HCk.out] at this
            have hszm : wm.cell? ⟨bS, q, none⟩ = some (.int .i64 (M : Int)) := by have := sz_cell HSm.out q HLt.out; rwa [← HMv.out] at this
            have HWm : Aside0 (wp.heap.size ≤ wm.heap.size) := ⟨Nat.le_trans HKk.out.1 hK.1⟩
            clear h5 h6 hA hZ hK hn5 hn6
            refine ⟨_, rfl, ?_⟩
            refine hK.out _ _ ⟨hs0m, hszm⟩ (fun hHeld => ?_)
            clear hK K
            refine norm_ (a' := ?_) ?_ ?_
            rotate_left
            · show Act.put _ (some 113) _ = _
              simp only [Act.put, List.setIfInBounds_toArray, List.set_cons_zero, List.set_cons_succ, i64_w, i32_w]
              rfl
            refine one_ (i := 19) (N := some 114) #[true, true, true, true, true, true, true, true, true, true, true, true, true, true, true, true, true, true, true, true, false, false, false, false] rfl rfl (one_of HT_.out (by kernel_rfl)) (by decide) (fun K hK => ?_)
            refine value_ (w1 := ?_) (v := ?_) (by rfl) rfl ?_ ?_
            rotate_left 2
            · go_simp
              constructor
              · rfl
              · rfl
            show K _ (World.alloc wm (Obj.cells #[.int .i64 x.1.f0, .int .i64 x.1.f1, .int .i64 x.1.f2, .int .i64 x.1.f3, .int .i64 x.1.f4, .slice A5 n5 c5, .slice A6 n6 c6] 50))
            refine hK.out _ _ ⟨pw_cell_below (below_alloc (Below.refl _ _) _) hs0m, pw_cell_below (below_alloc (Below.refl _ _) _) hszm⟩ (fun hHeld => ?_)
            clear hK K
            refine norm_ (a' := ?_) ?_ ?_
            rotate_left
            · show Act.put _ (some 114) _ = _
              simp only [Act.put, List.setIfInBounds_toArray, List.set_cons_zero, List.set_cons_succ, i64_w, i32_w]
              rfl
            refine one_ (i := 20) (N := some 115) #[true, true, true, true, true, true, true, true, true, true, true, true, true, true, true, true, true, true, true, true, true, false, false, false] rfl rfl (one_of HT_.out (by kernel_rfl)) (by decide) (fun K hK => ?_)
            refine Kd.R_append_step k50 (w0 := wm) wp.heap.size (by rfl) (.tmp 99) (.tmp 114) 44 50 (.agg #[.int .i64 0, .int .i64 0, .int .i64 0, .int .i64 0, .int .i64 0, .slice none 0 0, .slice none 0 0]) 88 (by rfl) Tryd.underlying44 info50 (by rfl) (by decide) (by omega) (.slice Aq k3 cq) t.2.2 x.1 [.int .i64 x.1.f0, .int .i64 x.1.f1, .int .i64 x.1.f2, .int .i64 x.1.f3, .int .i64 x.1.f4, .slice A5 n5 c5, .slice A6 n6 c6] (fun k => wp.heap.size ≤ k) (fun k => wr.heap.size ≤ k) (by rfl) (by rfl) ?aP ?aK ?aF ?aO ?aB ?aS ?aL ?_
            case aP => exact k50_mkM wm wp.heap.size (fun k => wr.heap.size ≤ k) x.1 (Kd.R_lower H5.out HKk.out.1) (Kd.R_lower H6.out HKk.out.1)
            case aK => exact fun k hk => ⟨Nat.le_trans HKk.out.1 hk, fun e => by have := HHX.out k e.symm; omega⟩
            case aF => exact fun k hk => Nat.le_trans HWm.out hk
            case aO => exact HXm.out
            case aB => exact Below.refl _ _
            case aS => exact HWm.out
            case aL => rw [HIk.out.1]; have := HLt3.out; have := HMr.out; omega
            intro v7 w7 ho hb hgr hat
            have FA := Aside0.mk (blk_grown (show wm.heap[g]? = _ from HAm.out) hgr (Kd.R_ne HXm.out (show wm.heap[g]? = _ from HAm.out) (by decide)))
            have FT := KeepT.grown (ts := [50]) (g := g) HXm.out (by simp) hgr
            have FF : Aside0 (kH.R 46 w7 wp.heap.size (fun k => wp.heap.size ≤ k) (.slice (some ⟨bF, 0, none⟩) N cF) hs2) := ⟨FT.row HFm.out (by decide) (fun k hk => by have := HGp.out; omega)⟩
            have FS : Aside0 (kI.R 3 w7 wp.heap.size (fun k => wp.heap.size ≤ k) (.slice (some ⟨bS, 0, none⟩) N cS) (szOf bs N)) := ⟨FT.row HSm.out (by decide) (fun k hk => by have := HGp.out; omega)⟩
            have FQ := Aside0.mk (HQm.out.after hgr hat)
            obtain ⟨A7, c7, rfl⟩ := Kd.R_slice ho
            rw [List.length_append, HIk.out.1, List.length_singleton] at ho FQ
            have FR := Aside0.mk ho
            have FB := Aside0.mk hb
            rw [List.length_append, HIk.out.1, List.length_singleton]
            have hs07 : w7.cell? ⟨bF, q * 4 + 3, none⟩ = some (.slice Aq k3 cq) := by have := (kH_at FF.out q HLt.out).2.2.2.1; rwa [HCk.out] at this
            have hsz7 : w7.cell? ⟨bS, q, none⟩ = some (.int .i64 (M : Int)) := by have := sz_cell FS.out q HLt.out; rwa [← HMv.out] at this
            clear ho hb hgr hat FT
            refine hK.out _ _ ⟨hs07, hsz7⟩ (fun hHeld => ?_)
            clear hK K
            refine norm_ (a' := ?_) ?_ ?_
            rotate_left
            · show Act.put _ (some 115) _ = _
              simp only [Act.put, List.setIfInBounds_toArray, List.set_cons_zero, List.set_cons_succ, i64_w, i32_w]
              rfl
            refine pure_ (i := 21) (N := some 116) (v := ?_) (a' := ?_) #[true, true, true, true, true, true, true, true, true, true, true, true, true, true, true, true, true, true, true, true, true, true, false, false] rfl rfl (any_of HT_.out (by kernel_rfl)) (fun _ _ _ h => DefQ.put h) (Or.inl ⟨by rfl, ?_⟩) ?_ ?_
            rotate_left
            · intro w'
              go_simp
              with_reducible rfl
            rotate_left
            · simp only [Act.put, List.setIfInBounds_toArray, List.set_cons_zero, List.set_cons_succ, i64_w, i32_w]
              rfl
            refine pure_ (i := 22) (N := some 117) (v := ?_) (a' := ?_) #[true, true, true, true, true, true, true, true, true, true, true, true, true, true, true, true, true, true, true, true, true, true, true, false] rfl rfl (any_of HT_.out (by kernel_rfl)) (fun _ _ _ h => DefQ.put h) (Or.inl ⟨by rfl, ?_⟩) ?_ ?_
            rotate_left
            · intro w'
              go_simp
              with_reducible rfl
            rotate_left
            · simp only [Act.put, List.setIfInBounds_toArray, List.set_cons_zero, List.set_cons_succ, i64_w, i32_w]
              rfl
            refine last_ (i := 23) (N := none) #[true, true, true, true, true, true, true, true, true, true, true, true, true, true, true, true, true, true, true, true, true, true, true, true] rfl rfl (one_of HT_.out (by kernel_rfl)) (by decide) (fun K hK => ?_)
            have hfz := (kH_at FF.out q HLt.out).2.2.2.2
            refine skip_ (w1 := ?_) (by rfl) rfl ?_ ?_
            rotate_left
            · go_simp
              rfl
            clear hfz
            refine hK.out _ _ ?_
            clear hK K
            refine done_ (done_of HT_.out (by kernel_rfl)) ?_
            refine (show DefQ _ Exit.normal _ _ from ?_)
            unfold DefQ
            clear hHeld HT_ HW_ hs0 hsz
            have H46 : ∃ ds, w7.heap[bF]? = some (Obj.cells ds 46 (0, 0)) := Kd.R_typed FF.out bF (by simp [Value.ownBlock])
            obtain ⟨ds, hds⟩ := H46
            have HHl3 : Aside0 (q < hs2.length) := ⟨by rw [HHl2.out]; exact HLt.out⟩
            have HA8 : Aside0 (AskW (w7.setCell ⟨bF, q * 4 + 3, none⟩ (.slice A7 (k3 + 1) c7)) g 80 (rdR A bs.length c (x.2.1 : Int)) G (some ⟨bF, 0, none⟩) N cF B x.2.2 a3) := ⟨(Below.heap_setCell w7 ⟨bF, q * 4 + 3, none⟩ _ g (fun e => HbF.out e.symm)).trans FA.out⟩
            obtain ⟨hv, hhv⟩ : ∃ hv : HV, hv = ⟨(hs2.getD q hv0).P, (hs2.getD q hv0).R, (hs2.getD q hv0).V, .slice A7 (k3 + 1) c7, rfl⟩ := ⟨_, rfl⟩
            have HF8 : Aside0 (kH.R 46 (w7.setCell ⟨bF, q * 4 + 3, none⟩ (.slice A7 (k3 + 1) c7)) wp.heap.size (fun k => wp.heap.size ≤ k) (.slice (some ⟨bF, 0, none⟩) N cF) (hs2.set q hv)) := ⟨by rw [hhv]; exact kH_set FF.out q HLt.out _ rfl⟩
            have HC8 : Aside0 (((hs2.set q hv).getD q hv0).c = .slice A7 (k3 + 1) c7) := ⟨by rw [set_getD_self hs2 q hv HHl3.out, hhv]⟩
            have HE8 : Aside0 (fsOf (hs2.set q hv) = fs) := ⟨by rw [hhv]; exact (fsOf_set hs2 q (.slice A7 (k3 + 1) c7) rfl).trans HEk.out⟩
            have HN8 : Aside0 (∀ i, q + 1 ≤ i → i < N → ((hs2.set q hv).getD i hv0).c = .slice none 0 0) := ⟨fun i h1 h2 => by rw [set_getD hs2 q i hv (by omega)]; exact HNk.out i h1 h2⟩
            have HQ8 : Aside0 (CodeQ (w7.setCell ⟨bF, q * 4 + 3, none⟩ (.slice A7 (k3 + 1) c7)) wp.heap.size (hs2.set q hv) s.2.2 q (.slice A7 (k3 + 1) c7)) := ⟨CodeQ.put (CodeQ.set FQ.out hds (by decide)) q (Nat.le_refl q)⟩
            have HX8 : Aside0 (k50.R 50 (w7.setCell ⟨bF, q * 4 + 3, none⟩ (.slice A7 (k3 + 1) c7)) wp.heap.size (fun k => wp.heap.size ≤ k) (.slice A7 (k3 + 1) c7) (t.2.2 ++ [x.1])) := ⟨Kd.R_set FR.out hds (by decide) _ _⟩
            have HS8 : Aside0 (kI.R 3 (w7.setCell ⟨bF, q * 4 + 3, none⟩ (.slice A7 (k3 + 1) c7)) wp.heap.size (fun k => wp.heap.size ≤ k) (.slice (some ⟨bS, 0, none⟩) N cS) (szOf bs N)) := ⟨Kd.R_set FS.out hds (by decide) _ _⟩
            have HWp : Aside0 (w.heap.size ≤ wp.heap.size) := ⟨by have := G15.out; have := HGp.out; omega⟩
            have HZ8 : Aside0 (Below w.heap.size w (w7.setCell ⟨bF, q * 4 + 3, none⟩ (.slice A7 (k3 + 1) c7))) := ⟨below_set (HZm.out.trans (FB.out.mono HWp.out)) (Nat.le_trans HWp.out HbFp.out)⟩
            have HK8 : Aside0 (KeepBut wp (w7.setCell ⟨bF, q * 4 + 3, none⟩ (.slice A7 (k3 + 1) c7)) g none) := ⟨⟨by have h1 := HWm.out; have h2 := FB.out.size; simpa [World.setCell] using Nat.le_trans h1 h2, fun i hi hg hr => (Below.heap_setCell w7 ⟨bF, q * 4 + 3, none⟩ _ i (fun e => by have := HbFp.out; have e2 : i = bF := e; omega)).trans ((FB.out.block i hi).trans ((KeepBut.trans HKk.out (show KeepBut wr wm g none from HKm2.out) (.inl rfl)).2 i hi hg hr))⟩⟩
            have HI8 : Aside0 ((t.2.2 ++ [x.1]).length = k3 + 1 ∧ x.2.1 ≤ bs.length ∧ 0 ≤ x.2.2 ∧ x.2.2 < 1048576) := ⟨by rw [List.length_append, HIk.out.1]; rfl, HIo.out x rfl⟩
            have HR8 : Aside0 (runE (codeStep G fs R V (M : Int) bs) (s.1, s.2.1, []) (k3 + 1) = .ok (x.2.1, x.2.2, t.2.2 ++ [x.1])) := ⟨by rw [HStk.out, HCs.out]⟩
            obtain ⟨w8, hw8⟩ : ∃ w8, w8 = (w7.setCell ⟨bF, q * 4 + 3, none⟩ (.slice A7 (k3 + 1) c7)) := ⟨_, rfl⟩
            rw [← hw8] at HA8 HF8 HQ8 HX8 HS8 HZ8 HK8 ⊢
            have hwp2 := HW2.out
            clear hw8 FA FF FS FQ FR FB hds hhv HAk HFk HCk HEk HNk HQk HXk HSk HZk HKk
            go_wp2_with fail
            go_roundw
            case rel => exact ⟨k3 + 1, (x.2.1, x.2.2, t.2.2 ++ [x.1]), .slice A7 (k3 + 1) c7, hs2.set q hv, a3, Nat.succ_le_of_lt HLt3.out, by go_num, HR8, HA8, HF8, HC8, HE8, HN8, HQ8, HX8, HS8, HI8, HZ8, HK8⟩
            case measure => rw [hwp2]; exact Nat.sub_lt_sub_left (show k3 < M from HLt3.out) (show k3 < k3 + 1 from Nat.lt_succ_self k3)
    have hwp : wrap64 ((q : Int) + 1) = (q : Int) + 1 := wrap_in (by have := HNr.out; omega) (by have := HNr.out; omega)
    have q0 : (0 : Int) ≤ (q : Int) := Int.natCast_nonneg q
    have q1 : (q : Int) < (N : Int) := by omega
    obtain ⟨⟨l0, l1⟩, hp9, _⟩ := heads_run HBy.out q l HRn.out
    obtain ⟨p, hp⟩ : ∃ p, p = 9 + 5 * q := ⟨_, rfl⟩
    have HPp := Aside0.mk hp
    have HHd := Aside0.mk (head_rd g G AF cF B l a A c bs p w wp wr (hsOf bs q) HZq.out G15.out HGp.out HKq.out (by rw [hsOf_len, hp]; exact HAq.out) HBs.out (by rw [hp]; exact hp9 L9.out) HCb.out HBy.out l0 l1 (by rw [hsOf_len]; exact HFq.out) (by rw [hsOf_len]; have := HNr.out; omega))
    clear hp hp9 l0 l1
    go_wp2_with fail
    refine HHd.out.mono ?_
    rintro e w' ⟨he, hok, hZ, hK, hT⟩
    have HZr := Aside0.mk hZ
    have HKr := Aside0.mk hK
    have HSr : Aside0 (kI.R 3 w' wp.heap.size (fun k => wp.heap.size ≤ k) u8 (szOf bs q)) := ⟨hT.row HSq.out (by decide) (fun k hk => by have := HGp.out; omega)⟩
    have HStp : Aside0 (runE (headStep bs) 0 (q + 1) = if p + 5 ≤ bs.length then (if hvE bs p l = 0 then .ok (l + (hvOf bs p).V) else .error (hvE bs p l, ((p : Nat) : Int))) else .error (11, bs.length)) := ⟨by rw [runE_next HRn.out, HPp.out]; rfl⟩
    clear hZ hK hT HHd HAq HFq HSq HZq HKq
    obtain ⟨w4, rfl⟩ : ∃ w4, w4 = w' := ⟨_, rfl⟩
    by_cases h5 : p + 5 ≤ bs.length
    rotate_left
    · rw [if_neg h5] at he
      subst he
      have HE : Aside0 (decR bs = .error (11, bs.length)) := ⟨by have hr := runE_err (show runE (headStep bs) 0 (q + 1) = .error (11, bs.length) from by rw [HStp.out, if_neg h5]) N (by omega); unfold decR; rw [if_pos HMg.out, if_pos (show 6 ≤ bs.length by have := L6.out; omega), if_pos (show 7 ≤ bs.length by have := L7.out; omega), ← HGv.out, if_pos H1.out, if_pos (show 9 ≤ bs.length by have := L9.out; omega), HCn.out, if_pos H2.out, Int.toNat_natCast, hr]⟩
      have Q2 := Aside0.mk (HKr.out.blk P2.out N2.out (by simp))
      have Q3 := Aside0.mk (HKr.out.blk P3.out N3.out (by simp))
      have Q4 := Aside0.mk (HKr.out.blk P4.out N4.out (by simp))
      have QZ := Aside0.mk (HZr.out)
      go_wp2_with fail
      refine leaves_cons (f := 41) (args := #[.pointer (some ⟨g2, 0, none⟩), .pointer (some ⟨g3, 0, none⟩), .pointer (some ⟨g4, 0, none⟩)]) (by simp) (by simp [go_sem]) ?_
      refine (catchD_stop g2 g3 g4 0 0 (11) (bs.length) (.slice none 0 0) w4 Q2.out Q3.out ⟨0, Q4.out⟩).mono ?_
      rintro e u' w'' ⟨rfl, rfl, hst⟩
      have r0 : w''.cell? ⟨g2, 0, none⟩ = some (.int .i64 0) := (blk_cell hst.1 0).trans rfl
      have r1 : w''.cell? ⟨g2, 1, none⟩ = some (.slice none 0 0) := (blk_cell hst.1 1).trans rfl
      have r2 : w''.cell? ⟨g3, 0, none⟩ = some (.int .i64 (11)) := (blk_cell hst.2.1 0).trans rfl
      have r3 : w''.cell? ⟨g4, 0, none⟩ = some (.int .i64 (bs.length)) := (blk_cell hst.2.2.1 0).trans rfl
      have HPo : Aside0 (DecPost w bs (.returned (.tuple #[.agg #[.int .i64 0, .slice none 0 0], .int .i64 (11), .int .i64 (bs.length)])) w'') := ⟨by unfold DecPost decOut; rw [HE.out]; exact ⟨.slice none 0 0, rfl, Kd.R_nil _ _ _ _ _, hst.2.2.2 w QZ.out G2.out G3.out G4.out⟩⟩
      clear hst Q2 Q3 Q4 QZ HE
      simp [Leaves, settle, results, Tryd.results24, go_sem, r0, r1, r2, r3]
      exact HPo.out
    rw [if_pos h5] at he
    have H5 := Aside0.mk h5
    clear h5
    obtain ⟨er, her⟩ : ∃ er, er = hvE bs p l := ⟨_, rfl⟩
    have HEr := Aside0.mk her
    rw [← her] at he hok HStp
    clear her
    by_cases h1 : er = 0
    rotate_left
    · rw [if_neg h1] at he
      subst he
      have HE : Aside0 (decR bs = .error (er, (p : Int))) := ⟨by have hr := runE_err (show runE (headStep bs) 0 (q + 1) = .error (er, ((p : Nat) : Int)) from by rw [HStp.out, if_pos H5.out, if_neg h1]) N (by omega); unfold decR; rw [if_pos HMg.out, if_pos (show 6 ≤ bs.length by have := L6.out; omega), if_pos (show 7 ≤ bs.length by have := L7.out; omega), ← HGv.out, if_pos H1.out, if_pos (show 9 ≤ bs.length by have := L9.out; omega), HCn.out, if_pos H2.out, Int.toNat_natCast, hr]⟩
      have Q2 := Aside0.mk (HKr.out.blk P2.out N2.out (by simp))
      have Q3 := Aside0.mk (HKr.out.blk P3.out N3.out (by simp))
      have Q4 := Aside0.mk (HKr.out.blk P4.out N4.out (by simp))
      have QZ := Aside0.mk (HZr.out)
      go_wp2_with fail
      refine leaves_cons (f := 41) (args := #[.pointer (some ⟨g2, 0, none⟩), .pointer (some ⟨g3, 0, none⟩), .pointer (some ⟨g4, 0, none⟩)]) (by simp) (by simp [go_sem]) ?_
      refine (catchD_stop g2 g3 g4 0 0 (er) ((p : Int)) (.slice none 0 0) w4 Q2.out Q3.out ⟨0, Q4.out⟩).mono ?_
      rintro e u' w'' ⟨rfl, rfl, hst⟩
      have r0 : w''.cell? ⟨g2, 0, none⟩ = some (.int .i64 0) := (blk_cell hst.1 0).trans rfl
      have r1 : w''.cell? ⟨g2, 1, none⟩ = some (.slice none 0 0) := (blk_cell hst.1 1).trans rfl
      have r2 : w''.cell? ⟨g3, 0, none⟩ = some (.int .i64 (er)) := (blk_cell hst.2.1 0).trans rfl
      have r3 : w''.cell? ⟨g4, 0, none⟩ = some (.int .i64 ((p : Int))) := (blk_cell hst.2.2.1 0).trans rfl
      have HPo : Aside0 (DecPost w bs (.returned (.tuple #[.agg #[.int .i64 0, .slice none 0 0], .int .i64 (er), .int .i64 ((p : Int))])) w'') := ⟨by unfold DecPost decOut; rw [HE.out]; exact ⟨.slice none 0 0, rfl, Kd.R_nil _ _ _ _ _, hst.2.2.2 w QZ.out G2.out G3.out G4.out⟩⟩
      clear hst Q2 Q3 Q4 QZ HE
      simp [Leaves, settle, results, Tryd.results24, go_sem, r0, r1, r2, r3]
      exact HPo.out
    rw [if_pos h1] at he
    subst he
    obtain ⟨A2, c2, hA2, hF2⟩ := hok H5.out h1
    rw [hsOf_len] at hA2 hF2
    have HRn2 : Aside0 (runE (headStep bs) 0 (q + 1) = .ok (l + (hvOf bs p).V)) := ⟨by rw [HStp.out, if_pos H5.out, if_pos h1]⟩
    have HA2 := Aside0.mk hA2
    have HF2 : Aside0 (kH.R 46 w4 wp.heap.size (fun k => wp.heap.size ≤ k) (.slice A2 (q + 1) c2) (hsOf bs (q + 1))) := ⟨by rw [hsOf_next, ← HPp.out]; exact hF2⟩
    clear hA2 hF2 hok HStp h1 HEr
    obtain ⟨m, hm2⟩ : ∃ m, m = hvN bs p := ⟨_, rfl⟩
    have HMv := Aside0.mk hm2
    rw [← hm2]
    clear hm2
    go_wp2_with ((with_reducible refine gate_builtin (b := .append) (xs := #[.tmp 64, .tmp 67]) rfl ?_); at_builtin; refine Kd.R_append kI (w0 := w4) wp.heap.size rfl (.tmp 64) (.tmp 67) 48 3 (.int .i64 0) 8 rfl Tryd.underlying48 info3 rfl (by decide) (by omega) u8 (szOf bs q) m [.int .i64 m] (fun k => wp.heap.size ≤ k) (fun _ => False) rfl rfl ?aP (fun _ hk => hk.elim) ?aF ?aO ?aB ?aS ?aL ?_; (case aP => exact rfl); (case aF => exact fun k hk => Nat.le_trans HKr.out.1 hk); (case aO => exact HSr.out); (case aB => exact Below.refl _ _); (case aS => exact HKr.out.1); (case aL => rw [szOf_len]; have := HNr.out; omega); intro v1 wv ho hb hgr hat; have FA := Aside0.mk (blk_grown (show w4.heap[g]? = _ from HA2.out) hgr (Kd.R_ne HSr.out (show w4.heap[g]? = _ from HA2.out) (by decide))); have FT := Aside0.mk (KeepT.grown (ts := [3]) (g := g) HSr.out (by simp) hgr); have FR := Aside0.mk ho; have FB := Aside0.mk hb; clear ho hb hgr hat)
    have HWp : Aside0 (w.heap.size ≤ wp.heap.size) := ⟨by have := G15.out; have := HGp.out; omega⟩
    have HA3 : Aside0 (AskW wv g 80 (rdR A bs.length c ((9 + 5 * (q + 1) : Nat) : Int)) G A2 (q + 1) c2 B (l + (hvOf bs p).V) (p : Int)) := ⟨by rw [show 9 + 5 * (q + 1) = p + 5 from by have := HPp.out; omega]; exact FA.out⟩
    have HF3 : Aside0 (kH.R 46 wv wp.heap.size (fun k => wp.heap.size ≤ k) (.slice A2 (q + 1) c2) (hsOf bs (q + 1))) := ⟨FT.out.row HF2.out (by decide) (fun k hk => by have := HGp.out; omega)⟩
    have HS3 : Aside0 (kI.R 3 wv wp.heap.size (fun k => wp.heap.size ≤ k) v1 (szOf bs (q + 1))) := ⟨by rw [szOf_next, ← HPp.out, ← HMv.out]; exact FR.out⟩
    have HZ3 : Aside0 (Below w.heap.size w wv) := ⟨HZr.out.trans (FB.out.mono HWp.out)⟩
    have HK3 : Aside0 (KeepBut wp wv g none) := ⟨⟨Nat.le_trans HKr.out.1 FB.out.size, fun i hi hg hr => (FB.out.block i hi).trans (HKr.out.2 i hi hg hr)⟩⟩
    clear HA2 HF2 HSr HZr HKr FA FT FR FB
    go_roundw
    case rel => exact ⟨q + 1, l + (hvOf bs p).V, A2, c2, (p : Int), by omega, by go_num, HRn2, HA3, HF3, HS3, HZ3, HK3⟩
    case measure => rw [hwp]; exact Nat.sub_lt_sub_left (show q < N from hlt) (show q < q + 1 from Nat.lt_succ_self q)
end Go.Proofs.YteonppgdmhakoaaDoor.PC
namespace Go.Proofs.YteonppgdmhakoaaDoor.PC
open Go.RowKit Go.Proofs.YteonppgdmhakoaaDoorW.PrintWords Go.Proofs.YteonppgdmhakoaaDoorW.PrintLast Go.Proofs.YteonppgdmhakoaaDoorW.PrintMore
set_option linter.unusedVariables false
set_option linter.unusedSimpArgs false
def code_Encode.f (a0_0 : Int) (l0_1 : List S46) : Option (List Int × Int) := some (encOut a0_0 l0_1, firstE a0_0 l0_1)
theorem code_Encode.calls (a0_0 : Int) (A0_1 : Option Addr) (c0_1 : Nat) (l0_1 : List (S46)) (r1 : List Int) (r2 : Int) (w : World) (hr0_1 : Kd.C k46 w A0_1 l0_1.length l0_1) (hc0_1 : l0_1.length ≤ c0_1) (h : code_Encode.f a0_0 l0_1 = some (r1, r2)) (hT : Tab w) :
    Calls Tryd.prog 20 #[.agg #[.int .i64 a0_0, .slice A0_1 l0_1.length c0_1]] w fun e w' => ∃ v1_ : Value, e = .returned (.tuple #[v1_, .int .i64 r2]) ∧ Kd.R (Kd.int .u8) 5 w' w.heap.size (fun _ => True) v1_ r1 ∧ Below w.heap.size w w' := by
  unfold code_Encode.f at h
  injection h with h
  injection h with h1 h2
  subst h1 h2
  exact enc_any a0_0 A0_1 c0_1 l0_1 w hr0_1 hT
def code_Decode.f (l0 : List Int) : Option (Int × List S46 × Int × Int) := if (l0.all fun x => decide (0 ≤ x ∧ x ≤ 255)) = true then some (decOut l0) else none
theorem code_Decode.calls (A0 : Option Addr) (c0 : Nat) (l0 : List Int) (r1 : Int) (r2 : List (S46)) (r3 r4 : Int) (w : World) (hr0 : Kd.C (Kd.int .u8) w A0 l0.length l0) (hc0 : l0.length ≤ c0) (h : code_Decode.f l0 = some (r1, r2, r3, r4)) (hT : Tab w) :
    Calls Tryd.prog 24 #[.slice A0 l0.length c0] w fun e w' => ∃ v1_ : Value, e = .returned (.tuple #[.agg #[.int .i64 r1, v1_], .int .i64 r3, .int .i64 r4]) ∧ Kd.R k46 46 w' w.heap.size (fun _ => True) v1_ r2 ∧ Below w.heap.size w w' := by
  unfold code_Decode.f at h
  by_cases hl : (l0.all fun x => decide (0 ≤ x ∧ x ≤ 255)) = true
  · rw [if_pos hl] at h
    injection h with h
    refine (dec_any A0 c0 l0 w hr0 hc0 (fun x hx => by rw [List.all_eq_true] at hl; simpa using hl x hx) hT).mono ?_
    rintro e w' ⟨v, he, hR, hB⟩
    rw [h] at he hR
    exact ⟨v, he, Kd.R_mono hR (fun _ _ => trivial), hB⟩
  · rw [if_neg hl] at h
    cases h
end Go.Proofs.YteonppgdmhakoaaDoor.PC
namespace Go.Proofs.YteonppgdmhakoaaDoor.PC
open Go.RowKit Go.Proofs.YteonppgdmhakoaaDoorW.PrintWords Go.Proofs.YteonppgdmhakoaaDoorW.PrintLast Go.Proofs.YteonppgdmhakoaaDoorW.PrintMore
attribute [local go_sem] max2_int min2_int max_two min_two max_three min_three max_four min_four
set_option linter.unusedVariables false
set_option linter.unusedSimpArgs false
def fuguelaw01_works.f (k : Nat)  : Option (Bool) := (fuguelaw01_least.f).bind fun bt132 => ((code_Encode.f bt132.1 bt132.2).bind fun bt136 => ((code_Decode.f bt136.1).bind fun bt140 => ((fuguelaw01_least.f).bind fun bt147 => ((fugueref00_EqProgram.f k bt140.1 bt140.2.1 bt147.1 bt147.2).bind fun t151 => ((fuguelaw01_least.f).bind fun bt152 => ((code_Check.f bt152.1 bt152.2).bind fun t156 => (if t156 = 0 then (if bt136.2 = 0 then (if bt140.2.2.1 = 0 then (if bt140.2.2.2 = 0 then (if (bt136.1.length : Int) = 16 then (if t151 = true then ((fuguelaw01_least.f).bind fun bt157 => ((code_Locations.f k bt157.1 bt157.2).bind fun t161 => (some (t161 == 1)))) else (some false)) else (some false)) else (some false)) else (some false)) else (some false)) else (some false))))))))
theorem fuguelaw01_works.mono : ∀ k, LeO (fuguelaw01_works.f k ) (fuguelaw01_works.f (k + 1) ) := by
  intro  k
  unfold fuguelaw01_works.f
  repeat' first
      | (with_reducible exact code_Locations.mono _ _ _)
      | (with_reducible exact fugueref00_EqProgram.mono _ _ _ _ _)
      | (with_reducible exact LeO.refl _)
      | (with_reducible exact LeO.none _)
      | (with_reducible refine LeO.ite ?_ ?_)
      | (with_reducible refine LeO.bind ?_ (fun _ => ?_))
      | exact code_Locations.mono _ _ _
      | exact fugueref00_EqProgram.mono _ _ _ _ _
      | exact LeO.none _
      | refine LeO.ite ?_ ?_
      | refine LeO.bind ?_ (fun _ => ?_)
set_option maxHeartbeats 8000000 in
set_option maxRecDepth 100000 in
theorem works_yes (k : Nat)  (r : Bool) (w : World) (h : fuguelaw01_works.f k  = some r) (hr_ : r = true) (hT_ : Tab w) :
    Calls Tryd.prog 10 #[] w fun e w' => e = .returned (.bool r) ∧ Below w.heap.size w w' := by
  have hu24 := Tryd.underlying24
  have HB := Aside0.mk (Below.refl w.heap.size w)
  have HTab := Aside0.mk hT_
  have H : ((fuguelaw01_least.f).bind fun bt132 => ((code_Encode.f bt132.1 bt132.2).bind fun bt136 => ((code_Decode.f bt136.1).bind fun bt140 => ((fuguelaw01_least.f).bind fun bt147 => ((fugueref00_EqProgram.f k bt140.1 bt140.2.1 bt147.1 bt147.2).bind fun t151 => ((fuguelaw01_least.f).bind fun bt152 => ((code_Check.f bt152.1 bt152.2).bind fun t156 => (if t156 = 0 then (if bt136.2 = 0 then (if bt140.2.2.1 = 0 then (if bt140.2.2.2 = 0 then (if (bt136.1.length : Int) = 16 then (if t151 = true then ((fuguelaw01_least.f).bind fun bt157 => ((code_Locations.f k bt157.1 bt157.2).bind fun t161 => (some (t161 == 1)))) else (some false)) else (some false)) else (some false)) else (some false)) else (some false)) else (some false))))))))) = some r := h
  clear h
  replace H := Option.bind_eq_some_iff.mp H
  obtain ⟨⟨t132, t133⟩, A10, H⟩ := H
  replace H : ((code_Encode.f t132 t133).bind fun bt136 => ((code_Decode.f bt136.1).bind fun bt140 => ((fuguelaw01_least.f).bind fun bt147 => ((fugueref00_EqProgram.f k bt140.1 bt140.2.1 bt147.1 bt147.2).bind fun t151 => ((fuguelaw01_least.f).bind fun bt152 => ((code_Check.f bt152.1 bt152.2).bind fun t156 => (if t156 = 0 then (if bt136.2 = 0 then (if bt140.2.2.1 = 0 then (if bt140.2.2.2 = 0 then (if (bt136.1.length : Int) = 16 then (if t151 = true then ((fuguelaw01_least.f).bind fun bt157 => ((code_Locations.f k bt157.1 bt157.2).bind fun t161 => (some (t161 == 1)))) else (some false)) else (some false)) else (some false)) else (some false)) else (some false)) else (some false)))))))) = some r := H
  have A1 := Aside0.mk A10
  clear A10
  replace H := Option.bind_eq_some_iff.mp H
  obtain ⟨⟨t136, t139⟩, A20, H⟩ := H
  replace H : ((code_Decode.f t136).bind fun bt140 => ((fuguelaw01_least.f).bind fun bt147 => ((fugueref00_EqProgram.f k bt140.1 bt140.2.1 bt147.1 bt147.2).bind fun t151 => ((fuguelaw01_least.f).bind fun bt152 => ((code_Check.f bt152.1 bt152.2).bind fun t156 => (if t156 = 0 then (if t139 = 0 then (if bt140.2.2.1 = 0 then (if bt140.2.2.2 = 0 then (if (t136.length : Int) = 16 then (if t151 = true then ((fuguelaw01_least.f).bind fun bt157 => ((code_Locations.f k bt157.1 bt157.2).bind fun t161 => (some (t161 == 1)))) else (some false)) else (some false)) else (some false)) else (some false)) else (some false)) else (some false))))))) = some r := H
  have A2 := Aside0.mk A20
  clear A20
  replace H := Option.bind_eq_some_iff.mp H
  obtain ⟨⟨t140, t141, t144, t145⟩, A30, H⟩ := H
  replace H : ((fuguelaw01_least.f).bind fun bt147 => ((fugueref00_EqProgram.f k t140 t141 bt147.1 bt147.2).bind fun t151 => ((fuguelaw01_least.f).bind fun bt152 => ((code_Check.f bt152.1 bt152.2).bind fun t156 => (if t156 = 0 then (if t139 = 0 then (if t144 = 0 then (if t145 = 0 then (if (t136.length : Int) = 16 then (if t151 = true then ((fuguelaw01_least.f).bind fun bt157 => ((code_Locations.f k bt157.1 bt157.2).bind fun t161 => (some (t161 == 1)))) else (some false)) else (some false)) else (some false)) else (some false)) else (some false)) else (some false)))))) = some r := H
  have A3 := Aside0.mk A30
  clear A30
  replace H := Option.bind_eq_some_iff.mp H
  obtain ⟨⟨t147, t148⟩, A40, H⟩ := H
  replace H : ((fugueref00_EqProgram.f k t140 t141 t147 t148).bind fun t151 => ((fuguelaw01_least.f).bind fun bt152 => ((code_Check.f bt152.1 bt152.2).bind fun t156 => (if t156 = 0 then (if t139 = 0 then (if t144 = 0 then (if t145 = 0 then (if (t136.length : Int) = 16 then (if t151 = true then ((fuguelaw01_least.f).bind fun bt157 => ((code_Locations.f k bt157.1 bt157.2).bind fun t161 => (some (t161 == 1)))) else (some false)) else (some false)) else (some false)) else (some false)) else (some false)) else (some false))))) = some r := H
  have A4 := Aside0.mk A40
  clear A40
  replace H := Option.bind_eq_some_iff.mp H
  obtain ⟨t151, A50, H⟩ := H
  replace H : ((fuguelaw01_least.f).bind fun bt152 => ((code_Check.f bt152.1 bt152.2).bind fun t156 => (if t156 = 0 then (if t139 = 0 then (if t144 = 0 then (if t145 = 0 then (if (t136.length : Int) = 16 then (if t151 = true then ((fuguelaw01_least.f).bind fun bt157 => ((code_Locations.f k bt157.1 bt157.2).bind fun t161 => (some (t161 == 1)))) else (some false)) else (some false)) else (some false)) else (some false)) else (some false)) else (some false)))) = some r := H
  have A5 := Aside0.mk A50
  clear A50
  replace H := Option.bind_eq_some_iff.mp H
  obtain ⟨⟨t152, t153⟩, A60, H⟩ := H
  replace H : ((code_Check.f t152 t153).bind fun t156 => (if t156 = 0 then (if t139 = 0 then (if t144 = 0 then (if t145 = 0 then (if (t136.length : Int) = 16 then (if t151 = true then ((fuguelaw01_least.f).bind fun bt157 => ((code_Locations.f k bt157.1 bt157.2).bind fun t161 => (some (t161 == 1)))) else (some false)) else (some false)) else (some false)) else (some false)) else (some false)) else (some false))) = some r := H
  have A6 := Aside0.mk A60
  clear A60
  replace H := Option.bind_eq_some_iff.mp H
  obtain ⟨t156, A70, H⟩ := H
  replace H : (if t156 = 0 then (if t139 = 0 then (if t144 = 0 then (if t145 = 0 then (if (t136.length : Int) = 16 then (if t151 = true then ((fuguelaw01_least.f).bind fun bt157 => ((code_Locations.f k bt157.1 bt157.2).bind fun t161 => (some (t161 == 1)))) else (some false)) else (some false)) else (some false)) else (some false)) else (some false)) else (some false)) = some r := H
  have A7 := Aside0.mk A70
  clear A70
  by_cases c8 : t156 = 0
  · rw [if_pos c8] at H
    have c8b0 : (t156 == 0) = true := beq_iff_eq.mpr c8
    have c8b1 : (t156 != 0) = false := bne_eq_false_iff_eq.mpr c8
    clear c8
    by_cases c9 : t139 = 0
    · rw [if_pos c9] at H
      have c9b0 : (t139 == 0) = true := beq_iff_eq.mpr c9
      have c9b1 : (t139 != 0) = false := bne_eq_false_iff_eq.mpr c9
      clear c9
      by_cases c10 : t144 = 0
      · rw [if_pos c10] at H
        have c10b0 : (t144 == 0) = true := beq_iff_eq.mpr c10
        have c10b1 : (t144 != 0) = false := bne_eq_false_iff_eq.mpr c10
        clear c10
        by_cases c11 : t145 = 0
        · rw [if_pos c11] at H
          have c11b0 : (t145 == 0) = true := beq_iff_eq.mpr c11
          have c11b1 : (t145 != 0) = false := bne_eq_false_iff_eq.mpr c11
          clear c11
          by_cases c12 : (t136.length : Int) = 16
          · rw [if_pos c12] at H
            have c12b0 : ((t136.length : Int) == 16) = true := beq_iff_eq.mpr c12
            have c12b1 : ((t136.length : Int) != 16) = false := bne_eq_false_iff_eq.mpr c12
            clear c12
            by_cases c13 : t151 = true
            · subst c13
              have H1 : ((fuguelaw01_least.f).bind fun bt157 => ((code_Locations.f k bt157.1 bt157.2).bind fun t161 => (some (t161 == 1)))) = some r := by rw [if_pos rfl] at H; exact H
              clear H
              have H := H1
              clear H1
              replace H := Option.bind_eq_some_iff.mp H
              obtain ⟨⟨t157, t158⟩, A140, H⟩ := H
              replace H : ((code_Locations.f k t157 t158).bind fun t161 => (some (t161 == 1))) = some r := H
              have A14 := Aside0.mk A140
              clear A140
              replace H := Option.bind_eq_some_iff.mp H
              obtain ⟨t161, A150, H⟩ := H
              replace H : (some (t161 == 1)) = some r := H
              have A15 := Aside0.mk A150
              clear A150
              obtain rfl := Option.some.inj H
              go_enter Tryd.func10, Tryd.ntmps10
              try go_wp2_with (first | ((with_reducible refine gate_callee (f := 29) rfl ?_); refine goesL_ (some 8) rfl rfl Tryd.func29 (by kernel_rfl) rfl #[] rfl (by (try simp only [List.map_toArray, List.map_cons, List.map_nil]); first | done | rfl | (simp only [List.length_drop, List.length_take]; rfl)) ?_; (with_reducible refine (fuguelaw01_least.calls  t132 t133 _ A1.out).mono ?_); rintro e w16 ⟨v134, rfl, ho0, hb⟩; refine ⟨_, rfl, ?_⟩; have n0_ := Aside0.mk (Kd.N_lower (Kd.N_mono (ok' := fun k_ => True) ho0 (fun k_ hk_ => trivial)) (below_size (by repeat (first | (with_reducible first | exact HB.out | apply below_alloc | apply pw_below_drewN | apply below_drew1) | exact HB.out)))); have n1_ := Aside0.mk (below_step (by repeat (first | (with_reducible first | exact HB.out | apply below_alloc | apply pw_below_drewN | apply below_drew1) | exact HB.out)) hb); clear HB; have HO135 := n0_; have HB := n1_; clear n0_ n1_; (try clear hb); (try clear hb2); (try clear hk); (try clear hi); (try clear ho0); obtain ⟨Ao17, co17, eo17⟩ := Kd.N_slice HO135.out; subst eo17) | ((with_reducible refine gate_callee (f := 20) rfl ?_); refine goesL_ (some 9) rfl rfl Tryd.func20 (by kernel_rfl) rfl #[.agg #[.int .i64 t132, .slice Ao17 t133.length co17]] rfl (by (try simp only [List.map_toArray, List.map_cons, List.map_nil]); first | done | rfl | (simp only [List.length_drop, List.length_take]; rfl)) ?_; (with_reducible refine (code_Encode.calls t132 _ _ t133 t136 t139 _ ?side1 ?side2 A2.out ?tab).mono ?_); (case tab => exact Tab.below HTab.out (by repeat (first | (with_reducible first | exact HB.out | apply below_alloc | apply pw_below_drewN | apply below_drew1) | exact HB.out))); (case side1 => repeat (first | exact (Kd.N_reads' HO135.out).2.2 | (with_reducible refine Kd.C_alloc ?_ _) | (with_reducible refine Kd.C_drewN ?_ _) | (with_reducible refine Kd.C_drew ?_))); (case side2 => exact (Kd.N_reads' HO135.out).2.1); rintro e w18 ⟨v137, rfl, ho0, hb⟩; refine ⟨_, rfl, ?_⟩; have n0_ := Aside0.mk (Kd.N_elder' (by (with_reducible repeat (first | apply Kd.N_alloc | apply Kd.N_drewN | apply Kd.N_drew)); exact HO135.out) (Kd.R_base ho0) hb); have n1_ := Aside0.mk (Kd.R_lower ho0 (below_size (by repeat (first | (with_reducible first | exact HB.out | apply below_alloc | apply pw_below_drewN | apply below_drew1) | exact HB.out)))); have n2_ := Aside0.mk (below_step (by repeat (first | (with_reducible first | exact HB.out | apply below_alloc | apply pw_below_drewN | apply below_drew1) | exact HB.out)) hb); clear HO135; clear HB; have HO135 := n0_; have HO138 := n1_; have HB := n2_; clear n0_ n1_ n2_; (try clear hb); (try clear hb2); (try clear hk); (try clear hi); (try clear ho0); obtain ⟨Ao19, co19, eo19⟩ := Kd.R_slice HO138.out; subst eo19) | ((with_reducible refine gate_callee (f := 24) rfl ?_); refine goesL_ (some 14) rfl rfl Tryd.func24 (by kernel_rfl) rfl #[.slice Ao19 t136.length co19] rfl (by (try simp only [List.map_toArray, List.map_cons, List.map_nil]); first | done | rfl | (simp only [List.length_drop, List.length_take]; rfl)) ?_; (with_reducible refine (code_Decode.calls _ _ t136 t140 t141 t144 t145 _ ?side1 ?side2 A3.out ?tab).mono ?_); (case tab => exact Tab.below HTab.out (by repeat (first | (with_reducible first | exact HB.out | apply below_alloc | apply pw_below_drewN | apply below_drew1) | exact HB.out))); (case side1 => repeat (first | exact (Kd.R_reads' HO138.out).2.2 | (with_reducible refine Kd.C_alloc ?_ _) | (with_reducible refine Kd.C_drewN ?_ _) | (with_reducible refine Kd.C_drew ?_))); (case side2 => exact (Kd.R_reads' HO138.out).2.1); rintro e w20 ⟨v142, rfl, ho0, hb⟩; refine ⟨_, rfl, ?_⟩; have n0_ := Aside0.mk (Kd.N_elder' (by (with_reducible repeat (first | apply Kd.N_alloc | apply Kd.N_drewN | apply Kd.N_drew)); exact HO135.out) (Kd.R_base ho0) hb); have n1_ := Aside0.mk (Kd.R_below (by (with_reducible repeat (first | apply Kd.R_alloc | apply Kd.R_drewN | apply Kd.R_drew)); exact HO138.out) hb); have n2_ := Aside0.mk (Kd.N_lower (Kd.N_mono (ok' := fun k_ => some k_ ≠ (.slice Ao17 t133.length co17 : Value).ownBlock ∧ some k_ ≠ (.slice Ao19 t136.length co19 : Value).ownBlock) (Kd.R_N (Kd.R_bound ho0)) (fun k_ hk_ => ⟨(Kd.fresh' (Kd.N_lt (by (with_reducible repeat (first | apply Kd.N_alloc | apply Kd.N_drewN | apply Kd.N_drew)); exact HO135.out)) k_ hk_.2.1), (Kd.fresh' (Kd.R_lt (by (with_reducible repeat (first | apply Kd.R_alloc | apply Kd.R_drewN | apply Kd.R_drew)); exact HO138.out)) k_ hk_.2.1)⟩)) (below_size (by repeat (first | (with_reducible first | exact HB.out | apply below_alloc | apply pw_below_drewN | apply below_drew1) | exact HB.out)))); have n3_ := Aside0.mk (below_step (by repeat (first | (with_reducible first | exact HB.out | apply below_alloc | apply pw_below_drewN | apply below_drew1) | exact HB.out)) hb); clear HO135; clear HO138; clear HB; have HO135 := n0_; have HO138 := n1_; have HO143 := n2_; have HB := n3_; clear n0_ n1_ n2_ n3_; (try clear hb); (try clear hb2); (try clear hk); (try clear hi); (try clear ho0)) | ((with_reducible refine gate_dst (N := 3) rfl ?_); (try (refine gate_guard (by rfl) ?_; dsimp only)); refine box_event ?hg (N := 3) ?hd (cs := #[.int .i64 0, .slice none 0 0]) (t := 24) ?hr ?_; (case hd => rfl); (case hg => rfl); (case hr => first | (go_simp; done) | (go_simp; rfl)); intro gb146 hg w21 hbox hb; have n0_ := Aside0.mk (Kd.N_below (Kd.N_elderB (by (with_reducible repeat (first | apply Kd.N_alloc | apply Kd.N_drewN | apply Kd.N_drew)); exact HO135.out) gb146 (Nat.le_of_eq hg.symm)) hb); have n1_ := Aside0.mk (Kd.R_below (by (with_reducible repeat (first | apply Kd.R_alloc | apply Kd.R_drewN | apply Kd.R_drew)); exact HO138.out) hb); have n2_ := Aside0.mk (Kd.N_below (Kd.N_elderB (by (with_reducible repeat (first | apply Kd.N_alloc | apply Kd.N_drewN | apply Kd.N_drew)); exact HO143.out) gb146 (Nat.le_of_eq hg.symm)) hb); have n3_ := Aside0.mk (below_step (by repeat (first | (with_reducible first | exact HB.out | apply below_alloc | apply pw_below_drewN | apply below_drew1) | exact HB.out)) hb); have n4_ := Aside0.mk (hbox); have n5_ := Aside0.mk ((by rw [hg]; exact (below_size (by repeat (first | (with_reducible first | exact HB.out | apply below_alloc | apply pw_below_drewN | apply below_drew1) | exact HB.out))) : w.heap.size ≤ gb146)); have n6_ := Aside0.mk ((by rw [hg]; exact (below_size (by repeat (first | (with_reducible first | exact HB.out | apply below_alloc | apply pw_below_drewN | apply below_drew1) | exact HB.out))) : w.heap.size ≤ gb146)); clear HO135; clear HO138; clear HO143; clear HB; have HO135 := n0_; have HO138 := n1_; have HO143 := n2_; have HB := n3_; have BK146 := n4_; have GW146 := n5_; have GE146 := n6_; clear n0_ n1_ n2_ n3_ n4_ n5_ n6_; clear hb hbox hg; have hcz22_0 : w21.cell? ⟨gb146, 0, none⟩ = some (.int .i64 0) := (blk_cell BK146.out 0).trans rfl; have hcz22_1 : w21.cell? ⟨gb146, 1, none⟩ = some (.slice none 0 0) := (blk_cell BK146.out 1).trans rfl; have hfz22_0 := blk_frozen BK146.out 0; have hfz22_1 := blk_frozen BK146.out 1; obtain ⟨Ao23, co23, eo23⟩ := Kd.N_slice HO143.out; subst eo23))
              have n0_ : Aside0 (Kd.N k46 46 ((w21.setCell ⟨gb146, 0, none⟩ (.int .i64 t140)).setCell ⟨gb146, 1, none⟩ (.slice Ao23 t141.length co23)) w.heap.size (fun k_ => some k_ ≠ (.slice Ao19 t136.length co19 : Value).ownBlock ∧ some k_ ≠ (.slice Ao23 t141.length co23 : Value).ownBlock ∧ k_ ≠ gb146) (.slice Ao17 t133.length co17) t133) := ⟨by (with_reducible repeat (first | apply Kd.N_alloc | apply Kd.N_drewN | apply Kd.N_drew)); exact Kd.N_mono (Kd.N_far (p := ⟨gb146, 1, none⟩) (Kd.N_far (p := ⟨gb146, 0, none⟩) (Kd.N_mono HO135.out (fun k_ hk => (⟨hk, hk.2⟩ : _ ∧ k_ ≠ gb146))) (fun _ hk => hk.2) (.int .i64 t140)) (fun _ hk => hk.2) (.slice Ao23 t141.length co23)) (fun _ hk => ⟨hk.1.1.1.2, ⟨hk.1.1.2, hk.1.2⟩⟩)⟩
              have n1_ : Aside0 (Kd.R (Kd.int .u8) 5 ((w21.setCell ⟨gb146, 0, none⟩ (.int .i64 t140)).setCell ⟨gb146, 1, none⟩ (.slice Ao23 t141.length co23)) w.heap.size (fun _ => True) (.slice Ao19 t136.length co19) t136) := ⟨by (with_reducible repeat (first | apply Kd.R_alloc | apply Kd.R_drewN | apply Kd.R_drew)); exact Kd.R_mono (Kd.R_far (p := ⟨gb146, 1, none⟩) (Kd.R_far (p := ⟨gb146, 0, none⟩) (Kd.R_types HO138.out BK146.out (by decide)) (fun _ hk => hk.2) (.int .i64 t140)) (fun _ hk => hk.2) (.slice Ao23 t141.length co23)) (fun _ hk => trivial)⟩
              have n2_ : Aside0 (Kd.N k46 46 ((w21.setCell ⟨gb146, 0, none⟩ (.int .i64 t140)).setCell ⟨gb146, 1, none⟩ (.slice Ao23 t141.length co23)) w.heap.size (fun k_ => some k_ ≠ (.slice Ao17 t133.length co17 : Value).ownBlock ∧ some k_ ≠ (.slice Ao19 t136.length co19 : Value).ownBlock ∧ k_ ≠ gb146) (.slice Ao23 t141.length co23) t141) := ⟨by (with_reducible repeat (first | apply Kd.N_alloc | apply Kd.N_drewN | apply Kd.N_drew)); exact Kd.N_mono (Kd.N_far (p := ⟨gb146, 1, none⟩) (Kd.N_far (p := ⟨gb146, 0, none⟩) (Kd.N_mono HO143.out (fun k_ hk => (⟨hk, hk.2⟩ : _ ∧ k_ ≠ gb146))) (fun _ hk => hk.2) (.int .i64 t140)) (fun _ hk => hk.2) (.slice Ao23 t141.length co23)) (fun _ hk => ⟨hk.1.1.1, ⟨hk.1.1.2, hk.1.2⟩⟩)⟩
              have n3_ : Aside0 (((w21.setCell ⟨gb146, 0, none⟩ (.int .i64 t140)).setCell ⟨gb146, 1, none⟩ (.slice Ao23 t141.length co23)).heap[gb146]? = some (.cells #[.int .i64 t140, .slice Ao23 t141.length co23] 24 (0, 0))) := ⟨by (with_reducible repeat (first | refine blk_drewN ?_ _ | refine blk_drew ?_ | refine blk_alloc ?_ _)); refine blk_put (cs := #[.int .i64 t140, .slice none 0 0]) ?_ 1 _ rfl; (with_reducible repeat (first | refine blk_drewN ?_ _ | refine blk_drew ?_ | refine blk_alloc ?_ _)); refine blk_put (cs := #[.int .i64 0, .slice none 0 0]) ?_ 0 _ rfl; (with_reducible repeat (first | refine blk_drewN ?_ _ | refine blk_drew ?_ | refine blk_alloc ?_ _)); exact BK146.out⟩
              have n4_ : Aside0 (Below w.heap.size w ((w21.setCell ⟨gb146, 0, none⟩ (.int .i64 t140)).setCell ⟨gb146, 1, none⟩ (.slice Ao23 t141.length co23))) := ⟨by repeat (first | (with_reducible first | exact HB.out | apply below_alloc | apply pw_below_drewN | apply below_drew1 | refine below_set ?_ GE146.out) | exact HB.out)⟩
              (try clear HO135)
              (try clear HO138)
              (try clear HO143)
              (try clear BK146)
              (try clear HB)
              generalize ((w21.setCell ⟨gb146, 0, none⟩ (.int .i64 t140)).setCell ⟨gb146, 1, none⟩ (.slice Ao23 t141.length co23)) = w24 at n0_ n1_ n2_ n3_ n4_ ⊢
              have HO135 := n0_
              have HO138 := n1_
              have HO143 := n2_
              have BK146 := n3_
              have HB := n4_
              clear n0_ n1_ n2_ n3_ n4_
              have n0_ := Aside0.mk (Kd.N_drew HO135.out)
              have n1_ := Aside0.mk (Kd.R_drew HO138.out)
              have n2_ := Aside0.mk (Kd.N_drew HO143.out)
              have n3_ := Aside0.mk (blk_drew BK146.out)
              have n4_ := Aside0.mk (below_drew1 HB.out)
              clear HO135
              clear HO138
              clear HO143
              clear BK146
              clear HB
              have HO135 := n0_
              have HO138 := n1_
              have HO143 := n2_
              have BK146 := n3_
              have HB := n4_
              clear n0_ n1_ n2_ n3_ n4_
              refine start_ (n := 4) (S := fun w' => w'.cell? ⟨gb146, 0, none⟩ = some (.int .i64 t140) ∧ w'.cell? ⟨gb146, 1, none⟩ = some (.slice Ao23 t141.length co23)) (ds := []) #[false, false, false, false] (by kernel_rfl) rfl rfl ⟨(blk_cell BK146.out 0).trans rfl, (blk_cell BK146.out 1).trans rfl⟩ (fun hHeld => ?_)
              generalize w24.drew = w25 at HO135 HO138 HO143 BK146 HB hHeld ⊢
              refine take_ (i := 0) (N := some 18) (v := ?_) (a' := ?_) #[true, false, false, false] rfl rfl (by kernel_rfl) (fun _ _ _ h => h) (Or.inl ⟨by rfl, ?_⟩) hHeld ?_ ?_
              rotate_left
              · rintro w' ⟨s0, s1⟩
                go_simp
                with_reducible rfl
              rotate_left
              · simp only [Act.put, List.setIfInBounds_toArray, List.set_cons_zero, List.set_cons_succ, i64_w, i32_w]
                rfl
              refine one_ (i := 1) (N := some 19) #[true, true, false, false] rfl rfl (by kernel_rfl) (by decide) (fun K hK => ?_)
              refine goes_ Tryd.func29 (by kernel_rfl) rfl #[] (by rfl) rfl rfl (by (try simp only [List.map_toArray, List.map_cons, List.map_nil]); first | done | rfl | (simp only [List.length_drop, List.length_take]; rfl)) ?_
              with_reducible refine (fuguelaw01_least.calls  t147 t148 _ A4.out).mono ?_
              rintro e w26 ⟨v149, rfl, ho0, hb⟩
              refine ⟨_, rfl, ?_⟩
              have n0_ := Aside0.mk (Kd.N_elder' (by (with_reducible repeat (first | apply Kd.N_alloc | apply Kd.N_drewN | apply Kd.N_drew)); exact HO135.out) (Kd.N_base ho0) hb)
              have n1_ := Aside0.mk (Kd.R_below (by (with_reducible repeat (first | apply Kd.R_alloc | apply Kd.R_drewN | apply Kd.R_drew)); exact HO138.out) hb)
              have n2_ := Aside0.mk (Kd.N_elder' (by (with_reducible repeat (first | apply Kd.N_alloc | apply Kd.N_drewN | apply Kd.N_drew)); exact HO143.out) (Kd.N_base ho0) hb)
              have n3_ := Aside0.mk (Kd.N_lower (Kd.N_mono (ok' := fun k_ => some k_ ≠ (.slice Ao17 t133.length co17 : Value).ownBlock ∧ some k_ ≠ (.slice Ao19 t136.length co19 : Value).ownBlock ∧ some k_ ≠ (.slice Ao23 t141.length co23 : Value).ownBlock ∧ k_ ≠ gb146) ho0 (fun k_ hk_ => ⟨(Kd.fresh' (Kd.N_lt (by (with_reducible repeat (first | apply Kd.N_alloc | apply Kd.N_drewN | apply Kd.N_drew)); exact HO135.out)) k_ hk_), (Kd.fresh' (Kd.R_lt (by (with_reducible repeat (first | apply Kd.R_alloc | apply Kd.R_drewN | apply Kd.R_drew)); exact HO138.out)) k_ hk_), (Kd.fresh' (Kd.N_lt (by (with_reducible repeat (first | apply Kd.N_alloc | apply Kd.N_drewN | apply Kd.N_drew)); exact HO143.out)) k_ hk_), (Kd.freshB (g := gb146) (o := .cells #[.int .i64 t140, .slice Ao23 t141.length co23] 24 (0, 0)) (by (with_reducible repeat (first | refine blk_drewN ?_ _ | refine blk_drew ?_ | refine blk_alloc ?_ _)); exact BK146.out) k_ hk_)⟩)) (below_size (by repeat (first | (with_reducible first | exact HB.out | apply below_alloc | apply pw_below_drewN | apply below_drew1 | refine below_set ?_ GE146.out) | exact HB.out))))
              have n4_ := Aside0.mk (blk_below (g := gb146) (o := .cells #[.int .i64 t140, .slice Ao23 t141.length co23] 24 (0, 0)) (by (with_reducible repeat (first | refine blk_drewN ?_ _ | refine blk_drew ?_ | refine blk_alloc ?_ _)); exact BK146.out) hb)
              have n5_ := Aside0.mk (below_step (by repeat (first | (with_reducible first | exact HB.out | apply below_alloc | apply pw_below_drewN | apply below_drew1 | refine below_set ?_ GE146.out) | exact HB.out)) hb)
              clear HO135
              clear HO138
              clear HO143
              clear BK146
              clear HB
              have HO135 := n0_
              have HO138 := n1_
              have HO143 := n2_
              have HO150 := n3_
              have BK146 := n4_
              have HB := n5_
              clear n0_ n1_ n2_ n3_ n4_ n5_
              (try clear hb)
              (try clear hb2)
              (try clear hk)
              (try clear hi)
              (try clear ho0)
              obtain ⟨Ao27, co27, eo27⟩ := Kd.N_slice HO150.out
              (first | subst eo27 | (injection eo27 with f1_ f2_ f3_; have f4_ := f1_.symm; have f5_ := f3_.symm; clear f1_ f2_ f3_; subst f4_; subst f5_))
              refine hK.out _ _ ⟨(blk_cell BK146.out 0).trans rfl, (blk_cell BK146.out 1).trans rfl⟩ (fun hHeld => ?_)
              clear hK K
              refine norm_ (a' := ?_) ?_ ?_
              rotate_left
              · show Act.put _ (some 19) _ = _
                simp only [Act.put, List.setIfInBounds_toArray, List.set_cons_zero, List.set_cons_succ, i64_w, i32_w]
                rfl
              refine one_ (i := 2) (N := some 20) #[true, true, true, false] rfl rfl (by kernel_rfl) (by decide) (fun K hK => ?_)
              refine goes_ Tryd.func14 (by kernel_rfl) rfl #[.agg #[.int .i64 t140, .slice Ao23 t141.length co23], .agg #[.int .i64 t147, .slice Ao27 t148.length co27]] (by rfl) rfl rfl (by (try simp only [List.map_toArray, List.map_cons, List.map_nil]); first | done | rfl | (simp only [List.length_drop, List.length_take]; rfl)) ?_
              with_reducible refine (fugueref00_EqProgram.calls k t140 _ _ t141 t147 _ _ t148 true _ ?side1 ?side2 ?side3 ?side4 A5.out).mono ?_
              (case side1 => repeat (first | exact (Kd.N_reads' HO143.out).2.2 | (with_reducible refine Kd.C_alloc ?_ _) | (with_reducible refine Kd.C_drewN ?_ _) | (with_reducible refine Kd.C_drew ?_)))
              (case side2 => exact (Kd.N_reads' HO143.out).2.1)
              (case side3 => repeat (first | exact (Kd.N_reads' HO150.out).2.2 | (with_reducible refine Kd.C_alloc ?_ _) | (with_reducible refine Kd.C_drewN ?_ _) | (with_reducible refine Kd.C_drew ?_)))
              (case side4 => exact (Kd.N_reads' HO150.out).2.1)
              rintro e w28 ⟨rfl, hb⟩
              refine ⟨_, rfl, ?_⟩
              have n0_ := Aside0.mk (Kd.N_below (by (with_reducible repeat (first | apply Kd.N_alloc | apply Kd.N_drewN | apply Kd.N_drew)); exact HO135.out) hb)
              have n1_ := Aside0.mk (Kd.R_below (by (with_reducible repeat (first | apply Kd.R_alloc | apply Kd.R_drewN | apply Kd.R_drew)); exact HO138.out) hb)
              have n2_ := Aside0.mk (Kd.N_below (by (with_reducible repeat (first | apply Kd.N_alloc | apply Kd.N_drewN | apply Kd.N_drew)); exact HO143.out) hb)
              have n3_ := Aside0.mk (Kd.N_below (by (with_reducible repeat (first | apply Kd.N_alloc | apply Kd.N_drewN | apply Kd.N_drew)); exact HO150.out) hb)
              have n4_ := Aside0.mk (blk_below (g := gb146) (o := .cells #[.int .i64 t140, .slice Ao23 t141.length co23] 24 (0, 0)) (by (with_reducible repeat (first | refine blk_drewN ?_ _ | refine blk_drew ?_ | refine blk_alloc ?_ _)); exact BK146.out) hb)
              have n5_ := Aside0.mk (below_step (by repeat (first | (with_reducible first | exact HB.out | apply below_alloc | apply pw_below_drewN | apply below_drew1 | refine below_set ?_ GE146.out) | exact HB.out)) hb)
              clear HO135
              clear HO138
              clear HO143
              clear HO150
              clear BK146
              clear HB
              have HO135 := n0_
              have HO138 := n1_
              have HO143 := n2_
              have HO150 := n3_
              have BK146 := n4_
              have HB := n5_
              clear n0_ n1_ n2_ n3_ n4_ n5_
              (try clear hb)
              (try clear hb2)
              (try clear hk)
              (try clear hi)
              refine hK.out _ _ ⟨(blk_cell BK146.out 0).trans rfl, (blk_cell BK146.out 1).trans rfl⟩ (fun hHeld => ?_)
              clear hK K
              refine norm_ (a' := ?_) ?_ ?_
              rotate_left
              · show Act.put _ (some 20) _ = _
                simp only [Act.put, List.setIfInBounds_toArray, List.set_cons_zero, List.set_cons_succ, i64_w, i32_w]
                rfl
              refine pure_ (i := 3) (N := some 6) (v := ?_) (a' := ?_) #[true, true, true, true] rfl rfl (by kernel_rfl) (fun _ _ _ h => h) (Or.inl ⟨by rfl, ?_⟩) ?_ ?_
              rotate_left
              · intro w'
                go_simp
                with_reducible rfl
              rotate_left
              · simp only [Act.put, List.setIfInBounds_toArray, List.set_cons_zero, List.set_cons_succ, i64_w, i32_w]
                rfl
              refine done_ (by kernel_rfl) ?_
              try go_wp2_with (first | ((with_reducible refine gate_callee (f := 29) rfl ?_); refine goesL_ (some 21) rfl rfl Tryd.func29 (by kernel_rfl) rfl #[] rfl (by (try simp only [List.map_toArray, List.map_cons, List.map_nil]); first | done | rfl | (simp only [List.length_drop, List.length_take]; rfl)) ?_; (with_reducible refine (fuguelaw01_least.calls  t152 t153 _ A6.out).mono ?_); rintro e w29 ⟨v154, rfl, ho0, hb⟩; refine ⟨_, rfl, ?_⟩; have n0_ := Aside0.mk (Kd.N_elder' (by (with_reducible repeat (first | apply Kd.N_alloc | apply Kd.N_drewN | apply Kd.N_drew)); exact HO135.out) (Kd.N_base ho0) hb); have n1_ := Aside0.mk (Kd.R_below (by (with_reducible repeat (first | apply Kd.R_alloc | apply Kd.R_drewN | apply Kd.R_drew)); exact HO138.out) hb); have n2_ := Aside0.mk (Kd.N_elder' (by (with_reducible repeat (first | apply Kd.N_alloc | apply Kd.N_drewN | apply Kd.N_drew)); exact HO143.out) (Kd.N_base ho0) hb); have n3_ := Aside0.mk (Kd.N_elder' (by (with_reducible repeat (first | apply Kd.N_alloc | apply Kd.N_drewN | apply Kd.N_drew)); exact HO150.out) (Kd.N_base ho0) hb); have n4_ := Aside0.mk (Kd.N_lower (Kd.N_mono (ok' := fun k_ => some k_ ≠ (.slice Ao17 t133.length co17 : Value).ownBlock ∧ some k_ ≠ (.slice Ao19 t136.length co19 : Value).ownBlock ∧ some k_ ≠ (.slice Ao23 t141.length co23 : Value).ownBlock ∧ some k_ ≠ (.slice Ao27 t148.length co27 : Value).ownBlock ∧ k_ ≠ gb146) ho0 (fun k_ hk_ => ⟨(Kd.fresh' (Kd.N_lt (by (with_reducible repeat (first | apply Kd.N_alloc | apply Kd.N_drewN | apply Kd.N_drew)); exact HO135.out)) k_ hk_), (Kd.fresh' (Kd.R_lt (by (with_reducible repeat (first | apply Kd.R_alloc | apply Kd.R_drewN | apply Kd.R_drew)); exact HO138.out)) k_ hk_), (Kd.fresh' (Kd.N_lt (by (with_reducible repeat (first | apply Kd.N_alloc | apply Kd.N_drewN | apply Kd.N_drew)); exact HO143.out)) k_ hk_), (Kd.fresh' (Kd.N_lt (by (with_reducible repeat (first | apply Kd.N_alloc | apply Kd.N_drewN | apply Kd.N_drew)); exact HO150.out)) k_ hk_), (Kd.freshB (g := gb146) (o := .cells #[.int .i64 t140, .slice Ao23 t141.length co23] 24 (0, 0)) (by (with_reducible repeat (first | refine blk_drewN ?_ _ | refine blk_drew ?_ | refine blk_alloc ?_ _)); exact BK146.out) k_ hk_)⟩)) (below_size (by repeat (first | (with_reducible first | exact HB.out | apply below_alloc | apply pw_below_drewN | apply below_drew1 | refine below_set ?_ GE146.out) | exact HB.out)))); have n5_ := Aside0.mk (blk_below (g := gb146) (o := .cells #[.int .i64 t140, .slice Ao23 t141.length co23] 24 (0, 0)) (by (with_reducible repeat (first | refine blk_drewN ?_ _ | refine blk_drew ?_ | refine blk_alloc ?_ _)); exact BK146.out) hb); have n6_ := Aside0.mk (below_step (by repeat (first | (with_reducible first | exact HB.out | apply below_alloc | apply pw_below_drewN | apply below_drew1 | refine below_set ?_ GE146.out) | exact HB.out)) hb); clear HO135; clear HO138; clear HO143; clear HO150; clear BK146; clear HB; have HO135 := n0_; have HO138 := n1_; have HO143 := n2_; have HO150 := n3_; have HO155 := n4_; have BK146 := n5_; have HB := n6_; clear n0_ n1_ n2_ n3_ n4_ n5_ n6_; (try clear hb); (try clear hb2); (try clear hk); (try clear hi); (try clear ho0); obtain ⟨Ao30, co30, eo30⟩ := Kd.N_slice HO155.out; subst eo30) | ((with_reducible refine gate_callee (f := 12) rfl ?_); refine goesL_ (some 22) rfl rfl Tryd.func12 (by kernel_rfl) rfl #[.agg #[.int .i64 t152, .slice Ao30 t153.length co30]] rfl (by (try simp only [List.map_toArray, List.map_cons, List.map_nil]); first | done | rfl | (simp only [List.length_drop, List.length_take]; rfl)) ?_; (with_reducible refine (code_Check.calls t152 _ _ t153 t156 _ ?side1 ?side2 A7.out).mono ?_); (case side1 => repeat (first | exact (Kd.N_reads' HO155.out).2.2 | (with_reducible refine Kd.C_alloc ?_ _) | (with_reducible refine Kd.C_drewN ?_ _) | (with_reducible refine Kd.C_drew ?_))); (case side2 => exact (Kd.N_reads' HO155.out).2.1); rintro e w31 ⟨rfl, hb⟩; refine ⟨_, rfl, ?_⟩; have n0_ := Aside0.mk (Kd.N_below (by (with_reducible repeat (first | apply Kd.N_alloc | apply Kd.N_drewN | apply Kd.N_drew)); exact HO135.out) hb); have n1_ := Aside0.mk (Kd.R_below (by (with_reducible repeat (first | apply Kd.R_alloc | apply Kd.R_drewN | apply Kd.R_drew)); exact HO138.out) hb); have n2_ := Aside0.mk (Kd.N_below (by (with_reducible repeat (first | apply Kd.N_alloc | apply Kd.N_drewN | apply Kd.N_drew)); exact HO143.out) hb); have n3_ := Aside0.mk (Kd.N_below (by (with_reducible repeat (first | apply Kd.N_alloc | apply Kd.N_drewN | apply Kd.N_drew)); exact HO150.out) hb); have n4_ := Aside0.mk (Kd.N_below (by (with_reducible repeat (first | apply Kd.N_alloc | apply Kd.N_drewN | apply Kd.N_drew)); exact HO155.out) hb); have n5_ := Aside0.mk (blk_below (g := gb146) (o := .cells #[.int .i64 t140, .slice Ao23 t141.length co23] 24 (0, 0)) (by (with_reducible repeat (first | refine blk_drewN ?_ _ | refine blk_drew ?_ | refine blk_alloc ?_ _)); exact BK146.out) hb); have n6_ := Aside0.mk (below_step (by repeat (first | (with_reducible first | exact HB.out | apply below_alloc | apply pw_below_drewN | apply below_drew1 | refine below_set ?_ GE146.out) | exact HB.out)) hb); clear HO135; clear HO138; clear HO143; clear HO150; clear HO155; clear BK146; clear HB; have HO135 := n0_; have HO138 := n1_; have HO143 := n2_; have HO150 := n3_; have HO155 := n4_; have BK146 := n5_; have HB := n6_; clear n0_ n1_ n2_ n3_ n4_ n5_ n6_; (try clear hb); (try clear hb2); (try clear hk); (try clear hi)) | (go_at_call 29; (with_reducible refine (fuguelaw01_least.calls  t157 t158 _ A14.out).mono ?_); rintro e w32 ⟨v159, rfl, ho0, hb⟩; have n0_ := Aside0.mk (Kd.N_elder' (by (with_reducible repeat (first | apply Kd.N_alloc | apply Kd.N_drewN | apply Kd.N_drew)); exact HO135.out) (Kd.N_base ho0) hb); have n1_ := Aside0.mk (Kd.R_below (by (with_reducible repeat (first | apply Kd.R_alloc | apply Kd.R_drewN | apply Kd.R_drew)); exact HO138.out) hb); have n2_ := Aside0.mk (Kd.N_elder' (by (with_reducible repeat (first | apply Kd.N_alloc | apply Kd.N_drewN | apply Kd.N_drew)); exact HO143.out) (Kd.N_base ho0) hb); have n3_ := Aside0.mk (Kd.N_elder' (by (with_reducible repeat (first | apply Kd.N_alloc | apply Kd.N_drewN | apply Kd.N_drew)); exact HO150.out) (Kd.N_base ho0) hb); have n4_ := Aside0.mk (Kd.N_elder' (by (with_reducible repeat (first | apply Kd.N_alloc | apply Kd.N_drewN | apply Kd.N_drew)); exact HO155.out) (Kd.N_base ho0) hb); have n5_ := Aside0.mk (Kd.N_lower (Kd.N_mono (ok' := fun k_ => some k_ ≠ (.slice Ao17 t133.length co17 : Value).ownBlock ∧ some k_ ≠ (.slice Ao19 t136.length co19 : Value).ownBlock ∧ some k_ ≠ (.slice Ao23 t141.length co23 : Value).ownBlock ∧ some k_ ≠ (.slice Ao27 t148.length co27 : Value).ownBlock ∧ some k_ ≠ (.slice Ao30 t153.length co30 : Value).ownBlock ∧ k_ ≠ gb146) ho0 (fun k_ hk_ => ⟨(Kd.fresh' (Kd.N_lt (by (with_reducible repeat (first | apply Kd.N_alloc | apply Kd.N_drewN | apply Kd.N_drew)); exact HO135.out)) k_ hk_), (Kd.fresh' (Kd.R_lt (by (with_reducible repeat (first | apply Kd.R_alloc | apply Kd.R_drewN | apply Kd.R_drew)); exact HO138.out)) k_ hk_), (Kd.fresh' (Kd.N_lt (by (with_reducible repeat (first | apply Kd.N_alloc | apply Kd.N_drewN | apply Kd.N_drew)); exact HO143.out)) k_ hk_), (Kd.fresh' (Kd.N_lt (by (with_reducible repeat (first | apply Kd.N_alloc | apply Kd.N_drewN | apply Kd.N_drew)); exact HO150.out)) k_ hk_), (Kd.fresh' (Kd.N_lt (by (with_reducible repeat (first | apply Kd.N_alloc | apply Kd.N_drewN | apply Kd.N_drew)); exact HO155.out)) k_ hk_), (Kd.freshB (g := gb146) (o := .cells #[.int .i64 t140, .slice Ao23 t141.length co23] 24 (0, 0)) (by (with_reducible repeat (first | refine blk_drewN ?_ _ | refine blk_drew ?_ | refine blk_alloc ?_ _)); exact BK146.out) k_ hk_)⟩)) (below_size (by repeat (first | (with_reducible first | exact HB.out | apply below_alloc | apply pw_below_drewN | apply below_drew1 | refine below_set ?_ GE146.out) | exact HB.out)))); have n6_ := Aside0.mk (blk_below (g := gb146) (o := .cells #[.int .i64 t140, .slice Ao23 t141.length co23] 24 (0, 0)) (by (with_reducible repeat (first | refine blk_drewN ?_ _ | refine blk_drew ?_ | refine blk_alloc ?_ _)); exact BK146.out) hb); have n7_ := Aside0.mk (below_step (by repeat (first | (with_reducible first | exact HB.out | apply below_alloc | apply pw_below_drewN | apply below_drew1 | refine below_set ?_ GE146.out) | exact HB.out)) hb); clear HO135; clear HO138; clear HO143; clear HO150; clear HO155; clear BK146; clear HB; have HO135 := n0_; have HO138 := n1_; have HO143 := n2_; have HO150 := n3_; have HO155 := n4_; have HO160 := n5_; have BK146 := n6_; have HB := n7_; clear n0_ n1_ n2_ n3_ n4_ n5_ n6_ n7_; (try clear hb); (try clear hb2); (try clear hk); (try clear hi); (try clear ho0); obtain ⟨Ao33, co33, eo33⟩ := Kd.N_slice HO160.out; subst eo33) | (go_at_call 13; (with_reducible refine (code_Locations.calls k t157 _ _ t158 t161 _ ?side1 ?side2 A15.out).mono ?_); (case side1 => repeat (first | exact (Kd.N_reads' HO160.out).2.2 | (with_reducible refine Kd.C_alloc ?_ _) | (with_reducible refine Kd.C_drewN ?_ _) | (with_reducible refine Kd.C_drew ?_))); (case side2 => exact (Kd.N_reads' HO160.out).2.1); rintro e w34 ⟨rfl, hb⟩; have n0_ := Aside0.mk (Kd.N_below (by (with_reducible repeat (first | apply Kd.N_alloc | apply Kd.N_drewN | apply Kd.N_drew)); exact HO135.out) hb); have n1_ := Aside0.mk (Kd.R_below (by (with_reducible repeat (first | apply Kd.R_alloc | apply Kd.R_drewN | apply Kd.R_drew)); exact HO138.out) hb); have n2_ := Aside0.mk (Kd.N_below (by (with_reducible repeat (first | apply Kd.N_alloc | apply Kd.N_drewN | apply Kd.N_drew)); exact HO143.out) hb); have n3_ := Aside0.mk (Kd.N_below (by (with_reducible repeat (first | apply Kd.N_alloc | apply Kd.N_drewN | apply Kd.N_drew)); exact HO150.out) hb); have n4_ := Aside0.mk (Kd.N_below (by (with_reducible repeat (first | apply Kd.N_alloc | apply Kd.N_drewN | apply Kd.N_drew)); exact HO155.out) hb); have n5_ := Aside0.mk (Kd.N_below (by (with_reducible repeat (first | apply Kd.N_alloc | apply Kd.N_drewN | apply Kd.N_drew)); exact HO160.out) hb); have n6_ := Aside0.mk (blk_below (g := gb146) (o := .cells #[.int .i64 t140, .slice Ao23 t141.length co23] 24 (0, 0)) (by (with_reducible repeat (first | refine blk_drewN ?_ _ | refine blk_drew ?_ | refine blk_alloc ?_ _)); exact BK146.out) hb); have n7_ := Aside0.mk (below_step (by repeat (first | (with_reducible first | exact HB.out | apply below_alloc | apply pw_below_drewN | apply below_drew1 | refine below_set ?_ GE146.out) | exact HB.out)) hb); clear HO135; clear HO138; clear HO143; clear HO150; clear HO155; clear HO160; clear BK146; clear HB; have HO135 := n0_; have HO138 := n1_; have HO143 := n2_; have HO150 := n3_; have HO155 := n4_; have HO160 := n5_; have BK146 := n6_; have HB := n7_; clear n0_ n1_ n2_ n3_ n4_ n5_ n6_ n7_; (try clear hb); (try clear hb2); (try clear hk); (try clear hi)))
              go_ret
              exact ⟨by first | rfl | (simp [errW_none, errW_some] <;> rfl) | (simp [*, errW_none, errW_some] <;> rfl), by repeat (first | (with_reducible first | exact HB.out | apply below_alloc | apply pw_below_drewN | apply below_drew1 | refine below_set ?_ GE146.out) | exact HB.out)⟩
            · rw [if_neg c13, Option.some.injEq] at H; subst H; cases hr_
          · rw [if_neg c12, Option.some.injEq] at H; subst H; cases hr_
        · rw [if_neg c11, Option.some.injEq] at H; subst H; cases hr_
      · rw [if_neg c10, Option.some.injEq] at H; subst H; cases hr_
    · rw [if_neg c9, Option.some.injEq] at H; subst H; cases hr_
  · rw [if_neg c8, Option.some.injEq] at H; subst H; cases hr_
theorem works_only {k : Nat} {r : Bool} (h : fuguelaw01_works.f k = some r) : r = true := by
  have h1 := at_rounds (fun k => fuguelaw01_works.mono k) (Nat.le_max_left k 12) h
  have h2 := at_rounds (fun k => fuguelaw01_works.mono k) (Nat.le_max_right k 12) (show fuguelaw01_works.f 12 = some true by decide +kernel)
  rw [h2] at h1
  exact (Option.some.inj h1).symm
theorem fuguelaw01_works.calls (k : Nat)  (r : Bool) (w : World) (h : fuguelaw01_works.f k  = some r) (hT_ : Tab w) :
    Calls Tryd.prog 10 #[] w fun e w' => e = .returned (.bool r) ∧ Below w.heap.size w w' := works_yes k r w h (works_only h) hT_
end Go.Proofs.YteonppgdmhakoaaDoor.PC
namespace Go.Proofs.YteonppgdmhakoaaDoor.PC
open Go.RowKit Go.Proofs.YteonppgdmhakoaaDoorW.PrintWords Go.Proofs.YteonppgdmhakoaaDoorW.PrintLast Go.Proofs.YteonppgdmhakoaaDoorW.PrintMore
attribute [local go_sem] max2_int min2_int max_two min_two max_three min_three max_four min_four
set_option linter.unusedVariables false
set_option linter.unusedSimpArgs false
def fugueref00_CopyBytes.l0 : Nat → List Int → List Int → Int → Option (List Int)
  | 0, _, _, _ => none
  | k + 1, x0, x3, x4 => if x4 < (x0.length : Int) then (if 0 ≤ x4 then (if x3.length < 140737488355328 then (fugueref00_CopyBytes.l0 k x0 (x3 ++ [rd x0 x4]) (wrap64 (x4 + 1))) else (none)) else (none)) else (some x3)
def fugueref00_CopyBytes.f (k : Nat) (l0 : List Int) : Option (List Int) := fugueref00_CopyBytes.l0 k l0 ([] : List Int) 0
set_option maxHeartbeats 8000000 in
set_option maxRecDepth 100000 in
theorem fugueref00_CopyBytes.calls (k : Nat) (A0 : Option Addr) (c0 : Nat) (l0 : List Int) (r : List Int) (w : World) (hr0 : Kd.C (Kd.int .u8) w A0 l0.length l0) (hc0 : l0.length ≤ c0) (h : fugueref00_CopyBytes.f k l0 = some r) :
    Calls Tryd.prog 27 #[.slice A0 l0.length c0] w fun e w' => ∃ v0_ : Value, e = .returned (v0_) ∧ Kd.R (Kd.int .u8) 5 w' w.heap.size (fun _ => True) v0_ r ∧ Below w.heap.size w w' := by
  have HR0 := Aside0.mk hr0
  have HC0 := Aside0.mk hc0
  clear hr0 hc0
  have HB := Aside0.mk (Below.refl w.heap.size w)
  have H : (fugueref00_CopyBytes.l0 k l0 ([] : List Int) 0) = some r := h
  clear h
  have H' := Aside0.mk H
  clear H
  go_enter Tryd.func27, Tryd.ntmps27
  go_wp2
  go_loopg [3, 4] k (fun kq v3 v4 w' => ∃ (x3_1 : List Int) (x4_1 : Int), v4 = .int .i64 x4_1 ∧ Aside0 (fugueref00_CopyBytes.l0 kq l0 x3_1 x4_1 = some r) ∧ Aside0 (kq ≤ k) ∧ Aside0 (Kd.R (Kd.int .u8) 5 w' w.heap.size (fun _ => True) v3 x3_1) ∧ Aside0 (Below w.heap.size w w'))
  case atStart => exact ⟨(([] : List Int)), (0), (by first | rfl | (simp; done) | (simp [*]; done)), H', ⟨Nat.le_refl _⟩, ⟨by first | exact Kd.R_nil _ _ _ _ _ | exact Kd.N_nil _ _ _ _ _ | exact Kd.V_nil _ _ _ _ _ | exact Kd.Q_nil _ _ _ _ _ | exact Kd.S_nil _ _ _ _ _⟩, ⟨by repeat (first | (with_reducible first | exact HB.out | apply below_alloc | apply pw_below_drewN | apply below_drew1) | exact HB.out)⟩⟩
  case round =>
    clear H'
    obtain ⟨x3_1, x4_1, rfl, HA, HK1, HO_3, HB⟩ := hrel
    cases gk with
    | zero => exact absurd HA.out (by simp [fugueref00_CopyBytes.l0])
    | succ k1 =>
      have H := HA.out
      clear HA
      simp only [fugueref00_CopyBytes.l0] at H
      by_cases c2 : x4_1 < (l0.length : Int)
      · rw [if_pos c2] at H
        have c2b0 : decide (x4_1 < (l0.length : Int)) = true := decide_eq_true c2
        clear c2
        by_cases c3 : 0 ≤ x4_1
        · rw [if_pos c3] at H
          have c3b0 : decide (0 ≤ x4_1) = true := decide_eq_true c3
          clear c3
          by_cases c4 : x3_1.length < 140737488355328
          · rw [if_pos c4] at H
            have LMc4 := Aside0.mk c4
            clear c4
            obtain ⟨y214, hy214⟩ : ∃ y_ : List Int, y_ = (x3_1 ++ [rd l0 x4_1]) := ⟨_, rfl⟩
            replace H : (fugueref00_CopyBytes.l0 k1 l0 y214 (wrap64 (x4_1 + 1))) = some r := by first | (rw [hy214]; with_reducible exact H) | (have H2_ := (Option.bind_some _ _).symm.trans H; rw [hy214]; with_reducible exact H2_) | (have H2_ := (Option.bind_some _ _).symm.trans H; with_reducible exact H2_) | with_reducible exact H | (rw [hy214]; exact H) | exact H
            have Ny214 := Aside0.mk hy214
            clear hy214
            have H' := Aside0.mk H
            clear H
            have p213 : 0 ≤ (x4_1 : Int) := of_decide_eq_true (by first | (with_reducible assumption) | assumption)
            have q213 : x4_1 < (l0.length : Int) := of_decide_eq_true (by first | (with_reducible assumption) | assumption)
            obtain ⟨ad213, e213, hx213_0⟩ := Kd.at_int HR0.out x4_1 p213 q213
            cases e213
            replace hx213_0 := (HB.out.cell (World.block_lt_of_cell? w _ hx213_0)).trans hx213_0
            replace p213 := eq_true p213
            replace q213 := eq_true q213
            go_wp2_with (first | ((with_reducible refine gate_builtin (b := .append) (xs := #[.tmp 11, .tmp 16]) rfl ?_); at_builtin; refine Kd.R_append (Kd.int .u8) (w0 := w) w.heap.size rfl (.tmp 11) (.tmp 16) 33 5 (.int .u8 0) 1 rfl Tryd.underlying33 info5 rfl (by decide) (by omega) u3 x3_1 (rd l0 x4_1) [.int .u8 (rd l0 x4_1)] (fun _ => True) (fun _ => False) rfl rfl ?aP (fun _ hk => hk.elim) ?aF ?aO ?aB ?aS ?aL ?_; (case aP => exact rfl); (case aB => exact (by repeat (first | (with_reducible first | exact HB.out | apply below_alloc | apply pw_below_drewN | apply below_drew1) | exact HB.out))); (case aF => exact (fun _ _ => trivial)); (case aO => exact (by (with_reducible repeat (first | apply Kd.R_alloc | apply Kd.R_drewN | apply Kd.R_drew)); exact HO_3.out)); (case aS => exact (below_size (by repeat (first | (with_reducible first | exact HB.out | apply below_alloc | apply pw_below_drewN | apply below_drew1) | exact HB.out)))); (case aL => have := LMc4.out; omega); intro v215 w5 ho hb hg hat; rw [← Ny214.out] at ho; have n0_ := Aside0.mk (hb); have n1_ := Aside0.mk (ho); clear HB; clear HO_3; have HB := n0_; have HO216 := n1_; clear n0_ n1_; clear ho hb hg hat))
            go_roundg k1
            case measure => have := HK1.out; omega
            case rel => exact ⟨(y214), (wrap64 (x4_1 + 1)), (by first | rfl | (simp; done) | (simp [*]; done)), H', ⟨by have := HK1.out; omega⟩, ⟨by (with_reducible repeat (first | apply Kd.R_alloc | apply Kd.R_drewN | apply Kd.R_drew)); exact HO216.out⟩, ⟨by repeat (first | (with_reducible first | exact HB.out | apply below_alloc | apply pw_below_drewN | apply below_drew1) | exact HB.out)⟩⟩
          · rw [if_neg c4] at H
            exact absurd H (by simp)
        · rw [if_neg c3] at H
          exact absurd H (by simp)
      · rw [if_neg c2] at H
        have c2b0 : decide (x4_1 < (l0.length : Int)) = false := decide_eq_false c2
        clear c2
        obtain rfl := Option.some.inj H
        go_wp2
        go_ret
        exact ⟨_, by first | rfl | (simp [errW_none, errW_some] <;> rfl) | (simp [*, errW_none, errW_some] <;> rfl), by (with_reducible repeat (first | apply Kd.R_alloc | apply Kd.R_drewN | apply Kd.R_drew)); exact HO_3.out, by repeat (first | (with_reducible first | exact HB.out | apply below_alloc | apply pw_below_drewN | apply below_drew1) | exact HB.out)⟩
end Go.Proofs.YteonppgdmhakoaaDoor.PC
namespace Go.Proofs.YteonppgdmhakoaaDoor.PC
open Go.RowKit Go.Proofs.YteonppgdmhakoaaDoorW.PrintWords Go.Proofs.YteonppgdmhakoaaDoorW.PrintLast Go.Proofs.YteonppgdmhakoaaDoorW.PrintMore
attribute [local go_sem] max2_int min2_int max_two min_two max_three min_three max_four min_four
set_option linter.unusedVariables false
set_option linter.unusedSimpArgs false
mutual
def fuguelaw01_CodeStays.j0 : Nat → List Int → List Int → Bool → Int → Int → Bool → Option (Bool)
  | 0, _, _, _, _, _, _ => none
  | k + 1, x0, x1, x5, x7, x8, x36 => if x36 = true then (some x5) else (if x8 < 0 then (fuguelaw01_CodeStays.j1 k x0 x1 x5 x7 x8 true) else (fuguelaw01_CodeStays.j1 k x0 x1 x5 x7 x8 (decide (x8 > (x0.length : Int)))))
def fuguelaw01_CodeStays.j1 : Nat → List Int → List Int → Bool → Int → Int → Bool → Option (Bool)
  | 0, _, _, _, _, _, _ => none
  | k + 1, x0, x1, x5, x7, x8, x45 => if x45 = true then (some false) else (if (wrap64 (x8 + 5)) > (x0.length : Int) then (fuguelaw01_CodeStays.j2 k x0 x1 x5 x7 x8 (x0.length : Int)) else (fuguelaw01_CodeStays.j2 k x0 x1 x5 x7 x8 (wrap64 (x8 + 5))))
def fuguelaw01_CodeStays.j2 : Nat → List Int → List Int → Bool → Int → Int → Int → Option (Bool)
  | 0, _, _, _, _, _, _ => none
  | k + 1, x0, x1, x5, x7, x8, x9 => if 0 ≤ x9 then (if x9 ≤ (x0.length : Int) then ((fugueref00_CopyBytes.f k (x0.take (x9 : Int).toNat)).bind fun t269 => (fuguelaw01_CodeStays.l0 k x1 x5 x7 x8 t269 0)) else (none)) else (none)
def fuguelaw01_CodeStays.l0 : Nat → List Int → Bool → Int → Int → List Int → Int → Option (Bool)
  | 0, _, _, _, _, _, _ => none
  | k + 1, x1, x5, x7, x8, x10, x11 => if x11 < (x1.length : Int) then (if 0 ≤ x11 then (if x10.length < 175921860444160 then (fuguelaw01_CodeStays.l0 k x1 x5 x7 x8 (x10 ++ [rd x1 x11]) (wrap64 (x11 + 1))) else (none)) else (none)) else ((code_Decode.f x10).bind fun bt276 => (if x5 = true then (if bt276.2.2.1 = x7 then (some (bt276.2.2.2 == x8)) else (some false)) else (some false)))
end
def fuguelaw01_CodeStays.f (k : Nat) (l0 : List Int) (l1 : List Int) : Option (Bool) := (fuguelaw01_works.f k).bind fun t257 => ((fugueref00_CopyBytes.f k l0).bind fun t258 => ((code_Decode.f t258).bind fun bt261 => (if bt261.2.2.1 = 0 then (fuguelaw01_CodeStays.j0 k l0 l1 t257 bt261.2.2.1 bt261.2.2.2 true) else (if bt261.2.2.1 = 11 then (fuguelaw01_CodeStays.j0 k l0 l1 t257 bt261.2.2.1 bt261.2.2.2 true) else (if bt261.2.2.1 = 10 then (fuguelaw01_CodeStays.j0 k l0 l1 t257 bt261.2.2.1 bt261.2.2.2 true) else (fuguelaw01_CodeStays.j0 k l0 l1 t257 bt261.2.2.1 bt261.2.2.2 (bt261.2.2.1 == 22)))))))
set_option maxHeartbeats 8000000 in
set_option maxRecDepth 100000 in
theorem fuguelaw01_CodeStays.calls (k : Nat) (A0 : Option Addr) (c0 : Nat) (l0 : List Int) (A1 : Option Addr) (c1 : Nat) (l1 : List Int) (r : Bool) (w : World) (hr0 : Kd.C (Kd.int .u8) w A0 l0.length l0) (hc0 : l0.length ≤ c0) (hr1 : Kd.C (Kd.int .u8) w A1 l1.length l1) (hc1 : l1.length ≤ c1) (h : fuguelaw01_CodeStays.f k l0 l1 = some r) (hT_ : Tab w) :
    Calls Tryd.prog 9 #[.slice A0 l0.length c0, .slice A1 l1.length c1] w fun e w' => e = .returned (.bool r) ∧ Below w.heap.size w w' := by
  have hu24 := Tryd.underlying24
  have HR0 := Aside0.mk hr0
  have HC0 := Aside0.mk hc0
  clear hr0 hc0
  have HR1 := Aside0.mk hr1
  have HC1 := Aside0.mk hc1
  clear hr1 hc1
  have HB := Aside0.mk (Below.refl w.heap.size w)
  have HTab := Aside0.mk hT_
  have H : ((fuguelaw01_works.f k).bind fun t257 => ((fugueref00_CopyBytes.f k l0).bind fun t258 => ((code_Decode.f t258).bind fun bt261 => (if bt261.2.2.1 = 0 then (fuguelaw01_CodeStays.j0 k l0 l1 t257 bt261.2.2.1 bt261.2.2.2 true) else (if bt261.2.2.1 = 11 then (fuguelaw01_CodeStays.j0 k l0 l1 t257 bt261.2.2.1 bt261.2.2.2 true) else (if bt261.2.2.1 = 10 then (fuguelaw01_CodeStays.j0 k l0 l1 t257 bt261.2.2.1 bt261.2.2.2 true) else (fuguelaw01_CodeStays.j0 k l0 l1 t257 bt261.2.2.1 bt261.2.2.2 (bt261.2.2.1 == 22)))))))) = some r := h
  clear h
  replace H := Option.bind_eq_some_iff.mp H
  obtain ⟨t257, A30, H⟩ := H
  replace H : ((fugueref00_CopyBytes.f k l0).bind fun t258 => ((code_Decode.f t258).bind fun bt261 => (if bt261.2.2.1 = 0 then (fuguelaw01_CodeStays.j0 k l0 l1 t257 bt261.2.2.1 bt261.2.2.2 true) else (if bt261.2.2.1 = 11 then (fuguelaw01_CodeStays.j0 k l0 l1 t257 bt261.2.2.1 bt261.2.2.2 true) else (if bt261.2.2.1 = 10 then (fuguelaw01_CodeStays.j0 k l0 l1 t257 bt261.2.2.1 bt261.2.2.2 true) else (fuguelaw01_CodeStays.j0 k l0 l1 t257 bt261.2.2.1 bt261.2.2.2 (bt261.2.2.1 == 22))))))) = some r := H
  have A3 := Aside0.mk A30
  clear A30
  replace H := Option.bind_eq_some_iff.mp H
  obtain ⟨t258, A40, H⟩ := H
  replace H : ((code_Decode.f t258).bind fun bt261 => (if bt261.2.2.1 = 0 then (fuguelaw01_CodeStays.j0 k l0 l1 t257 bt261.2.2.1 bt261.2.2.2 true) else (if bt261.2.2.1 = 11 then (fuguelaw01_CodeStays.j0 k l0 l1 t257 bt261.2.2.1 bt261.2.2.2 true) else (if bt261.2.2.1 = 10 then (fuguelaw01_CodeStays.j0 k l0 l1 t257 bt261.2.2.1 bt261.2.2.2 true) else (fuguelaw01_CodeStays.j0 k l0 l1 t257 bt261.2.2.1 bt261.2.2.2 (bt261.2.2.1 == 22)))))) = some r := H
  have A4 := Aside0.mk A40
  clear A40
  replace H := Option.bind_eq_some_iff.mp H
  obtain ⟨⟨t261, t262, t265, t266⟩, A50, H⟩ := H
  replace H : (if t265 = 0 then (fuguelaw01_CodeStays.j0 k l0 l1 t257 t265 t266 true) else (if t265 = 11 then (fuguelaw01_CodeStays.j0 k l0 l1 t257 t265 t266 true) else (if t265 = 10 then (fuguelaw01_CodeStays.j0 k l0 l1 t257 t265 t266 true) else (fuguelaw01_CodeStays.j0 k l0 l1 t257 t265 t266 (t265 == 22))))) = some r := H
  have A5 := Aside0.mk A50
  clear A50
  have HC6 := Aside0.mk H
  clear H
  go_enter Tryd.func9, Tryd.ntmps9
  go_upto_region 3 with (first | ((with_reducible refine gate_callee (f := 10) rfl ?_); refine goesL_ (some 15) rfl rfl Tryd.func10 (by kernel_rfl) rfl #[] rfl (by (try simp only [List.map_toArray, List.map_cons, List.map_nil]); first | done | rfl | (simp only [List.length_drop, List.length_take]; rfl)) ?_; (with_reducible refine (fuguelaw01_works.calls k  t257 _ A3.out ?tab).mono ?_); (case tab => exact Tab.below HTab.out (by repeat (first | (with_reducible first | exact HB.out | apply below_alloc | apply pw_below_drewN | apply below_drew1) | exact HB.out))); rintro e w7 ⟨rfl, hb⟩; refine ⟨_, rfl, ?_⟩; have n0_ := Aside0.mk (below_step (by repeat (first | (with_reducible first | exact HB.out | apply below_alloc | apply pw_below_drewN | apply below_drew1) | exact HB.out)) hb); clear HB; have HB := n0_; clear n0_; (try clear hb); (try clear hb2); (try clear hk); (try clear hi)) | ((with_reducible refine gate_callee (f := 27) rfl ?_); refine goesL_ (some 18) rfl rfl Tryd.func27 (by kernel_rfl) rfl #[.slice A0 l0.length c0] rfl (by (try simp only [List.map_toArray, List.map_cons, List.map_nil]); first | done | rfl | (simp only [List.length_drop, List.length_take]; rfl)) ?_; (with_reducible refine (fugueref00_CopyBytes.calls k _ _ l0 t258 _ ?side1 ?side2 A4.out).mono ?_); (case side1 => repeat (first | exact (Kd.C_below HR0.out HB.out) | (with_reducible refine Kd.C_alloc ?_ _) | (with_reducible refine Kd.C_drewN ?_ _) | (with_reducible refine Kd.C_drew ?_))); (case side2 => exact HC0.out); rintro e w8 ⟨v259, rfl, ho0, hb⟩; refine ⟨_, rfl, ?_⟩; have n0_ := Aside0.mk (Kd.R_lower ho0 (below_size (by repeat (first | (with_reducible first | exact HB.out | apply below_alloc | apply pw_below_drewN | apply below_drew1) | exact HB.out)))); have n1_ := Aside0.mk (below_step (by repeat (first | (with_reducible first | exact HB.out | apply below_alloc | apply pw_below_drewN | apply below_drew1) | exact HB.out)) hb); clear HB; have HO260 := n0_; have HB := n1_; clear n0_ n1_; (try clear hb); (try clear hb2); (try clear hk); (try clear hi); (try clear ho0); obtain ⟨Ao9, co9, eo9⟩ := Kd.R_slice HO260.out; subst eo9) | ((with_reducible refine gate_callee (f := 24) rfl ?_); refine goesL_ (some 19) rfl rfl Tryd.func24 (by kernel_rfl) rfl #[.slice Ao9 t258.length co9] rfl (by (try simp only [List.map_toArray, List.map_cons, List.map_nil]); first | done | rfl | (simp only [List.length_drop, List.length_take]; rfl)) ?_; (with_reducible refine (code_Decode.calls _ _ t258 t261 t262 t265 t266 _ ?side1 ?side2 A5.out ?tab).mono ?_); (case tab => exact Tab.below HTab.out (by repeat (first | (with_reducible first | exact HB.out | apply below_alloc | apply pw_below_drewN | apply below_drew1) | exact HB.out))); (case side1 => repeat (first | exact (Kd.R_reads' HO260.out).2.2 | (with_reducible refine Kd.C_alloc ?_ _) | (with_reducible refine Kd.C_drewN ?_ _) | (with_reducible refine Kd.C_drew ?_))); (case side2 => exact (Kd.R_reads' HO260.out).2.1); rintro e w10 ⟨v263, rfl, ho0, hb⟩; refine ⟨_, rfl, ?_⟩; have n0_ := Aside0.mk (Kd.R_below (by (with_reducible repeat (first | apply Kd.R_alloc | apply Kd.R_drewN | apply Kd.R_drew)); exact HO260.out) hb); have n1_ := Aside0.mk (Kd.R_lower ho0 (below_size (by repeat (first | (with_reducible first | exact HB.out | apply below_alloc | apply pw_below_drewN | apply below_drew1) | exact HB.out)))); have n2_ := Aside0.mk (below_step (by repeat (first | (with_reducible first | exact HB.out | apply below_alloc | apply pw_below_drewN | apply below_drew1) | exact HB.out)) hb); clear HO260; clear HB; have HO260 := n0_; have HO264 := n1_; have HB := n2_; clear n0_ n1_ n2_; (try clear hb); (try clear hb2); (try clear hk); (try clear hi); (try clear ho0)) | ((with_reducible refine gate_dst (N := 6) rfl ?_); (try (refine gate_guard (by rfl) ?_; dsimp only)); refine box_event ?hg (N := 6) ?hd (cs := #[.int .i64 0, .slice none 0 0]) (t := 24) ?hr ?_; (case hd => rfl); (case hg => rfl); (case hr => first | (go_simp; done) | (go_simp; rfl)); intro gb267 hg w11 hbox hb; have n0_ := Aside0.mk (Kd.R_below (by (with_reducible repeat (first | apply Kd.R_alloc | apply Kd.R_drewN | apply Kd.R_drew)); exact HO260.out) hb); have n1_ := Aside0.mk (Kd.R_below (by (with_reducible repeat (first | apply Kd.R_alloc | apply Kd.R_drewN | apply Kd.R_drew)); exact HO264.out) hb); have n2_ := Aside0.mk (below_step (by repeat (first | (with_reducible first | exact HB.out | apply below_alloc | apply pw_below_drewN | apply below_drew1) | exact HB.out)) hb); have n3_ := Aside0.mk (hbox); have n4_ := Aside0.mk ((by rw [hg]; exact (below_size (by repeat (first | (with_reducible first | exact HB.out | apply below_alloc | apply pw_below_drewN | apply below_drew1) | exact HB.out))) : w.heap.size ≤ gb267)); have n5_ := Aside0.mk ((by rw [hg]; exact (below_size (by repeat (first | (with_reducible first | exact HB.out | apply below_alloc | apply pw_below_drewN | apply below_drew1) | exact HB.out))) : w.heap.size ≤ gb267)); clear HO260; clear HO264; clear HB; have HO260 := n0_; have HO264 := n1_; have HB := n2_; have BK267 := n3_; have GW267 := n4_; have GE267 := n5_; clear n0_ n1_ n2_ n3_ n4_ n5_; clear hb hbox hg; have hcz12_0 : w11.cell? ⟨gb267, 0, none⟩ = some (.int .i64 0) := (blk_cell BK267.out 0).trans rfl; have hcz12_1 : w11.cell? ⟨gb267, 1, none⟩ = some (.slice none 0 0) := (blk_cell BK267.out 1).trans rfl; have hfz12_0 := blk_frozen BK267.out 0; have hfz12_1 := blk_frozen BK267.out 1; obtain ⟨Ao13, co13, eo13⟩ := Kd.R_slice HO264.out; subst eo13))
  (try simp only [Act.put, List.setIfInBounds_toArray, List.set_cons_zero, List.set_cons_succ])
  go_cut [36] (fun v36 wc => ∃ (kq : Nat) (x36_5 : Bool), v36 = .bool x36_5 ∧ Aside0 (fuguelaw01_CodeStays.j0 kq l0 l1 t257 t265 t266 x36_5 = some r) ∧ Aside0 (kq ≤ k) ∧ Aside0 (Kd.R k46 46 wc w.heap.size (fun _ => True) (.slice Ao13 t262.length co13) t262) ∧ Aside0 (wc.heap[gb267]? = some (.cells #[.int .i64 t261, (.slice Ao13 t262.length co13)] 24 (0, 0))) ∧ Aside0 (Below w.heap.size w wc))
  case first =>
    have H := HC6.out
    clear HC6
    by_cases c14 : t265 = 0
    · rw [if_pos c14] at H
      have c14b0 : (t265 == 0) = true := beq_iff_eq.mpr c14
      have c14b1 : (t265 != 0) = false := bne_eq_false_iff_eq.mpr c14
      clear c14
      (first | rw [c14b0] | (simp only [i64_w, i32_w]; rw [c14b0]) | skip)
      have H' := Aside0.mk H
      clear H
      go_wp2
      go_meet
      case rel => exact ⟨_, (true), (by first | rfl | (simp; done) | (simp [*]; done)), H', ⟨by first | omega | exact Nat.le_refl _⟩, ⟨by (with_reducible repeat (first | apply Kd.R_alloc | apply Kd.R_drewN | apply Kd.R_drew)); exact Kd.R_mono (Kd.R_far (p := ⟨gb267, 1, none⟩) (Kd.R_far (p := ⟨gb267, 0, none⟩) (Kd.R_types HO264.out BK267.out (by decide)) (fun _ hk => hk.2) (.int .i64 t261)) (fun _ hk => hk.2) (.slice Ao13 t262.length co13)) (fun _ hk => trivial)⟩, ⟨by (with_reducible repeat (first | refine blk_drewN ?_ _ | refine blk_drew ?_ | refine blk_alloc ?_ _)); refine blk_put (cs := #[.int .i64 t261, .slice none 0 0]) ?_ 1 _ rfl; (with_reducible repeat (first | refine blk_drewN ?_ _ | refine blk_drew ?_ | refine blk_alloc ?_ _)); refine blk_put (cs := #[.int .i64 0, .slice none 0 0]) ?_ 0 _ rfl; (with_reducible repeat (first | refine blk_drewN ?_ _ | refine blk_drew ?_ | refine blk_alloc ?_ _)); exact BK267.out⟩, ⟨by repeat (first | (with_reducible first | exact HB.out | apply below_alloc | apply pw_below_drewN | apply below_drew1 | refine below_set ?_ GE267.out) | exact HB.out)⟩⟩
    · rw [if_neg c14] at H
      have c14b0 : (t265 == 0) = false := beq_eq_false_iff_ne.mpr c14
      have c14b1 : (t265 != 0) = true := bne_iff_ne.mpr c14
      (first | rw [c14b0] | (simp only [i64_w, i32_w]; rw [c14b0]) | skip)
      by_cases c15 : t265 = 11
      · rw [if_pos c15] at H
        have c15b0 : (t265 == 11) = true := beq_iff_eq.mpr c15
        have c15b1 : (t265 != 11) = false := bne_eq_false_iff_eq.mpr c15
        clear c15
        have H' := Aside0.mk H
        clear H
        go_wp2
        go_meet
        case rel => exact ⟨_, (true), (by first | rfl | (simp; done) | (simp [*]; done)), H', ⟨by first | omega | exact Nat.le_refl _⟩, ⟨by (with_reducible repeat (first | apply Kd.R_alloc | apply Kd.R_drewN | apply Kd.R_drew)); exact Kd.R_mono (Kd.R_far (p := ⟨gb267, 1, none⟩) (Kd.R_far (p := ⟨gb267, 0, none⟩) (Kd.R_types HO264.out BK267.out (by decide)) (fun _ hk => hk.2) (.int .i64 t261)) (fun _ hk => hk.2) (.slice Ao13 t262.length co13)) (fun _ hk => trivial)⟩, ⟨by (with_reducible repeat (first | refine blk_drewN ?_ _ | refine blk_drew ?_ | refine blk_alloc ?_ _)); refine blk_put (cs := #[.int .i64 t261, .slice none 0 0]) ?_ 1 _ rfl; (with_reducible repeat (first | refine blk_drewN ?_ _ | refine blk_drew ?_ | refine blk_alloc ?_ _)); refine blk_put (cs := #[.int .i64 0, .slice none 0 0]) ?_ 0 _ rfl; (with_reducible repeat (first | refine blk_drewN ?_ _ | refine blk_drew ?_ | refine blk_alloc ?_ _)); exact BK267.out⟩, ⟨by repeat (first | (with_reducible first | exact HB.out | apply below_alloc | apply pw_below_drewN | apply below_drew1 | refine below_set ?_ GE267.out) | exact HB.out)⟩⟩
      · rw [if_neg c15] at H
        have c15b0 : (t265 == 11) = false := beq_eq_false_iff_ne.mpr c15
        have c15b1 : (t265 != 11) = true := bne_iff_ne.mpr c15
        by_cases c16 : t265 = 10
        · rw [if_pos c16] at H
          have c16b0 : (t265 == 10) = true := beq_iff_eq.mpr c16
          have c16b1 : (t265 != 10) = false := bne_eq_false_iff_eq.mpr c16
          clear c16
          have H' := Aside0.mk H
          clear H
          go_wp2
          go_meet
          case rel => exact ⟨_, (true), (by first | rfl | (simp; done) | (simp [*]; done)), H', ⟨by first | omega | exact Nat.le_refl _⟩, ⟨by (with_reducible repeat (first | apply Kd.R_alloc | apply Kd.R_drewN | apply Kd.R_drew)); exact Kd.R_mono (Kd.R_far (p := ⟨gb267, 1, none⟩) (Kd.R_far (p := ⟨gb267, 0, none⟩) (Kd.R_types HO264.out BK267.out (by decide)) (fun _ hk => hk.2) (.int .i64 t261)) (fun _ hk => hk.2) (.slice Ao13 t262.length co13)) (fun _ hk => trivial)⟩, ⟨by (with_reducible repeat (first | refine blk_drewN ?_ _ | refine blk_drew ?_ | refine blk_alloc ?_ _)); refine blk_put (cs := #[.int .i64 t261, .slice none 0 0]) ?_ 1 _ rfl; (with_reducible repeat (first | refine blk_drewN ?_ _ | refine blk_drew ?_ | refine blk_alloc ?_ _)); refine blk_put (cs := #[.int .i64 0, .slice none 0 0]) ?_ 0 _ rfl; (with_reducible repeat (first | refine blk_drewN ?_ _ | refine blk_drew ?_ | refine blk_alloc ?_ _)); exact BK267.out⟩, ⟨by repeat (first | (with_reducible first | exact HB.out | apply below_alloc | apply pw_below_drewN | apply below_drew1 | refine below_set ?_ GE267.out) | exact HB.out)⟩⟩
        · rw [if_neg c16] at H
          have c16b0 : (t265 == 10) = false := beq_eq_false_iff_ne.mpr c16
          have c16b1 : (t265 != 10) = true := bne_iff_ne.mpr c16
          have H' := Aside0.mk H
          clear H
          go_wp2
          go_meet
          case rel => exact ⟨_, ((t265 == 22)), (by first | rfl | (simp; done) | (simp [*]; done)), H', ⟨by first | omega | exact Nat.le_refl _⟩, ⟨by (with_reducible repeat (first | apply Kd.R_alloc | apply Kd.R_drewN | apply Kd.R_drew)); exact Kd.R_mono (Kd.R_far (p := ⟨gb267, 1, none⟩) (Kd.R_far (p := ⟨gb267, 0, none⟩) (Kd.R_types HO264.out BK267.out (by decide)) (fun _ hk => hk.2) (.int .i64 t261)) (fun _ hk => hk.2) (.slice Ao13 t262.length co13)) (fun _ hk => trivial)⟩, ⟨by (with_reducible repeat (first | refine blk_drewN ?_ _ | refine blk_drew ?_ | refine blk_alloc ?_ _)); refine blk_put (cs := #[.int .i64 t261, .slice none 0 0]) ?_ 1 _ rfl; (with_reducible repeat (first | refine blk_drewN ?_ _ | refine blk_drew ?_ | refine blk_alloc ?_ _)); refine blk_put (cs := #[.int .i64 0, .slice none 0 0]) ?_ 0 _ rfl; (with_reducible repeat (first | refine blk_drewN ?_ _ | refine blk_drew ?_ | refine blk_alloc ?_ _)); exact BK267.out⟩, ⟨by repeat (first | (with_reducible first | exact HB.out | apply below_alloc | apply pw_below_drewN | apply below_drew1 | refine below_set ?_ GE267.out) | exact HB.out)⟩⟩
  case rest =>
    clear HC6
    try clear c1
    try clear c2
    try clear p2
    try clear c9
    try clear c10
    try clear c14
    try clear c14b0
    try clear c14b1
    try clear c15
    try clear c15b0
    try clear c15b1
    try clear c16
    try clear c16b0
    try clear c16b1
    try clear hcz12_0
    try clear hcz12_1
    try clear hfz12_0
    try clear hfz12_1
    obtain ⟨kq, x36_5, rfl, HA, HJ5, HO_268001, BK267, HB⟩ := hcut
    cases kq with
    | zero => exact absurd HA.out (by simp [fuguelaw01_CodeStays.j0])
    | succ kj5 =>
      have H := HA.out
      clear HA
      simp only [fuguelaw01_CodeStays.j0] at H
      by_cases c17 : x36_5 = true
      · subst c17
        have H1 : (some t257) = some r := by rw [if_pos rfl] at H; exact H
        clear H
        have H := H1
        clear H1
        obtain rfl := Option.some.inj H
        go_wp2
        go_ret
        exact ⟨by first | rfl | (simp [errW_none, errW_some] <;> rfl) | (simp [*, errW_none, errW_some] <;> rfl), by repeat (first | (with_reducible first | exact HB.out | apply below_alloc | apply pw_below_drewN | apply below_drew1 | refine below_set ?_ GE267.out) | exact HB.out)⟩
      · replace c17 := Bool.eq_false_iff.mpr c17
        subst c17
        have H1 : (if t266 < 0 then (fuguelaw01_CodeStays.j1 kj5 l0 l1 t257 t265 t266 true) else (fuguelaw01_CodeStays.j1 kj5 l0 l1 t257 t265 t266 (decide (t266 > (l0.length : Int))))) = some r := by rw [if_neg (show ¬ (false = true) by decide)] at H; exact H
        clear H
        have H := H1
        clear H1
        have HC18 := Aside0.mk H
        clear H
        go_upto_region 5 with (fail)
        go_cut [45] (fun v45 wc => ∃ (kq : Nat) (x45_17 : Bool), v45 = .bool x45_17 ∧ Aside0 (fuguelaw01_CodeStays.j1 kq l0 l1 t257 t265 t266 x45_17 = some r) ∧ Aside0 (kq ≤ kj5) ∧ Aside0 (Kd.R k46 46 wc w.heap.size (fun _ => True) (.slice Ao13 t262.length co13) t262) ∧ Aside0 (wc.heap[gb267]? = some (.cells #[.int .i64 t261, (.slice Ao13 t262.length co13)] 24 (0, 0))) ∧ Aside0 (Below w.heap.size w wc))
        case first =>
          have H := HC18.out
          clear HC18
          by_cases c19 : t266 < 0
          · rw [if_pos c19] at H
            have c19b0 : decide (t266 < 0) = true := decide_eq_true c19
            clear c19
            (first | rw [c19b0] | (simp only [i64_w, i32_w]; rw [c19b0]) | skip)
            have H' := Aside0.mk H
            clear H
            go_wp2
            go_meet
            case rel => exact ⟨_, (true), (by first | rfl | (simp; done) | (simp [*]; done)), H', ⟨by have := HJ5.out; first | omega | exact Nat.le_refl _⟩, ⟨by (with_reducible repeat (first | apply Kd.R_alloc | apply Kd.R_drewN | apply Kd.R_drew)); exact HO_268001.out⟩, ⟨by (with_reducible repeat (first | refine blk_drewN ?_ _ | refine blk_drew ?_ | refine blk_alloc ?_ _)); exact BK267.out⟩, ⟨by repeat (first | (with_reducible first | exact HB.out | apply below_alloc | apply pw_below_drewN | apply below_drew1 | refine below_set ?_ GE267.out) | exact HB.out)⟩⟩
          · rw [if_neg c19] at H
            have c19b0 : decide (t266 < 0) = false := decide_eq_false c19
            clear c19
            (first | rw [c19b0] | (simp only [i64_w, i32_w]; rw [c19b0]) | skip)
            have H' := Aside0.mk H
            clear H
            go_wp2
            go_meet
            case rel => exact ⟨_, (decide (t266 > (l0.length : Int))), (by first | rfl | (simp; done) | (simp [*]; done)), H', ⟨by have := HJ5.out; first | omega | exact Nat.le_refl _⟩, ⟨by (with_reducible repeat (first | apply Kd.R_alloc | apply Kd.R_drewN | apply Kd.R_drew)); exact HO_268001.out⟩, ⟨by (with_reducible repeat (first | refine blk_drewN ?_ _ | refine blk_drew ?_ | refine blk_alloc ?_ _)); exact BK267.out⟩, ⟨by repeat (first | (with_reducible first | exact HB.out | apply below_alloc | apply pw_below_drewN | apply below_drew1 | refine below_set ?_ GE267.out) | exact HB.out)⟩⟩
        case rest =>
          clear HC18
          try clear c1
          try clear c2
          try clear p2
          try clear c9
          try clear c10
          try clear c14
          try clear c14b0
          try clear c14b1
          try clear c15
          try clear c15b0
          try clear c15b1
          try clear c16
          try clear c16b0
          try clear c16b1
          try clear c17
          try clear c19
          try clear c19b0
          try clear hcz12_0
          try clear hcz12_1
          try clear hfz12_0
          try clear hfz12_1
          try clear p2
          obtain ⟨kq, x45_17, rfl, HA, HJ17, HO_268001, BK267, HB⟩ := hcut
          cases kq with
          | zero => exact absurd HA.out (by simp [fuguelaw01_CodeStays.j1])
          | succ kj17 =>
            have H := HA.out
            clear HA
            simp only [fuguelaw01_CodeStays.j1] at H
            by_cases c20 : x45_17 = true
            · subst c20
              have H1 : (some false) = some r := by rw [if_pos rfl] at H; exact H
              clear H
              have H := H1
              clear H1
              obtain rfl := Option.some.inj H
              go_wp2
              go_ret
              exact ⟨by first | rfl | (simp [errW_none, errW_some] <;> rfl) | (simp [*, errW_none, errW_some] <;> rfl), by repeat (first | (with_reducible first | exact HB.out | apply below_alloc | apply pw_below_drewN | apply below_drew1 | refine below_set ?_ GE267.out) | exact HB.out)⟩
            · replace c20 := Bool.eq_false_iff.mpr c20
              subst c20
              have H1 : (if (wrap64 (t266 + 5)) > (l0.length : Int) then (fuguelaw01_CodeStays.j2 kj17 l0 l1 t257 t265 t266 (l0.length : Int)) else (fuguelaw01_CodeStays.j2 kj17 l0 l1 t257 t265 t266 (wrap64 (t266 + 5)))) = some r := by rw [if_neg (show ¬ (false = true) by decide)] at H; exact H
              clear H
              have H := H1
              clear H1
              have HC21 := Aside0.mk H
              clear H
              go_upto_if 51 with (fail)
              go_cut [9] (fun v9 wc => ∃ (kq : Nat) (x9_20 : Int), v9 = .int .i64 x9_20 ∧ Aside0 (fuguelaw01_CodeStays.j2 kq l0 l1 t257 t265 t266 x9_20 = some r) ∧ Aside0 (kq ≤ kj17) ∧ Aside0 (Kd.R k46 46 wc w.heap.size (fun _ => True) (.slice Ao13 t262.length co13) t262) ∧ Aside0 (wc.heap[gb267]? = some (.cells #[.int .i64 t261, (.slice Ao13 t262.length co13)] 24 (0, 0))) ∧ Aside0 (Below w.heap.size w wc))
              case first =>
                have H := HC21.out
                clear HC21
                by_cases c22 : (wrap64 (t266 + 5)) > (l0.length : Int)
                · rw [if_pos c22] at H
                  have c22b0 : decide ((l0.length : Int) < (wrap64 (t266 + 5))) = true := decide_eq_true c22
                  clear c22
                  (first | rw [c22b0] | (simp only [i64_w, i32_w]; rw [c22b0]) | skip)
                  have H' := Aside0.mk H
                  clear H
                  go_wp2
                  go_meet
                  case rel => exact ⟨_, ((l0.length : Int)), (by first | rfl | (simp; done) | (simp [*]; done)), H', ⟨by have := HJ5.out; have := HJ17.out; first | omega | exact Nat.le_refl _⟩, ⟨by (with_reducible repeat (first | apply Kd.R_alloc | apply Kd.R_drewN | apply Kd.R_drew)); exact HO_268001.out⟩, ⟨by (with_reducible repeat (first | refine blk_drewN ?_ _ | refine blk_drew ?_ | refine blk_alloc ?_ _)); exact BK267.out⟩, ⟨by repeat (first | (with_reducible first | exact HB.out | apply below_alloc | apply pw_below_drewN | apply below_drew1 | refine below_set ?_ GE267.out) | exact HB.out)⟩⟩
                · rw [if_neg c22] at H
                  have c22b0 : decide ((l0.length : Int) < (wrap64 (t266 + 5))) = false := decide_eq_false c22
                  clear c22
                  (first | rw [c22b0] | (simp only [i64_w, i32_w]; rw [c22b0]) | skip)
                  have H' := Aside0.mk H
                  clear H
                  go_wp2
                  go_meet
                  case rel => exact ⟨_, (wrap64 (t266 + 5)), (by first | rfl | (simp; done) | (simp [*]; done)), H', ⟨by have := HJ5.out; have := HJ17.out; first | omega | exact Nat.le_refl _⟩, ⟨by (with_reducible repeat (first | apply Kd.R_alloc | apply Kd.R_drewN | apply Kd.R_drew)); exact HO_268001.out⟩, ⟨by (with_reducible repeat (first | refine blk_drewN ?_ _ | refine blk_drew ?_ | refine blk_alloc ?_ _)); exact BK267.out⟩, ⟨by repeat (first | (with_reducible first | exact HB.out | apply below_alloc | apply pw_below_drewN | apply below_drew1 | refine below_set ?_ GE267.out) | exact HB.out)⟩⟩
              case rest =>
                clear HC21
                try clear c1
                try clear c2
                try clear p2
                try clear p6
                try clear c9
                try clear c10
                try clear c14
                try clear c14b0
                try clear c14b1
                try clear c15
                try clear c15b0
                try clear c15b1
                try clear c16
                try clear c16b0
                try clear c16b1
                try clear c17
                try clear c19
                try clear c19b0
                try clear c20
                try clear c22
                try clear c22b0
                try clear hcz12_0
                try clear hcz12_1
                try clear hfz12_0
                try clear hfz12_1
                try clear p2
                obtain ⟨kq, x9_20, rfl, HA, HJ20, HO_268001, BK267, HB⟩ := hcut
                cases kq with
                | zero => exact absurd HA.out (by simp [fuguelaw01_CodeStays.j2])
                | succ kj20 =>
                  have H := HA.out
                  clear HA
                  simp only [fuguelaw01_CodeStays.j2] at H
                  by_cases c23 : 0 ≤ x9_20
                  · rw [if_pos c23] at H
                    have c23b0 := eq_true c23
                    have c23b1 : decide (0 ≤ x9_20) = true := decide_eq_true c23
                    clear c23
                    by_cases c24 : x9_20 ≤ (l0.length : Int)
                    · rw [if_pos c24] at H
                      have c24b0 := eq_true c24
                      have c24b1 : decide (x9_20 ≤ (l0.length : Int)) = true := decide_eq_true c24
                      clear c24
                      replace H := Option.bind_eq_some_iff.mp H
                      obtain ⟨t269, A250, H⟩ := H
                      replace H : (fuguelaw01_CodeStays.l0 kj20 l1 t257 t265 t266 t269 0) = some r := H
                      have A25 := Aside0.mk A250
                      clear A250
                      have H' := Aside0.mk H
                      clear H
                      obtain ⟨i026, hi026, _, hsz26, _⟩ := info_parts info5
                      obtain ⟨hcut26, hA26, hC26⟩ := print_take_of (P := Tryd.prog) (Value.int .u8) 0 33 5 .i64 Tryd.underlying33 hi026 hsz26 A0 c0 l0 x9_20 (of_decide_eq_true (by first | (with_reducible assumption) | assumption)) (of_decide_eq_true (by first | (with_reducible assumption) | assumption)) HC0.out
                      have HR268 := Aside0.mk (Kd.C_of_reads (h1 := fun _ => rfl) (hA26 _ (Kd.reads_of_C HR0.out)))
                      have HC268 := Aside0.mk hC26
                      clear hA26 hC26 hi026 hsz26
                      go_wp2_with (first | ((with_reducible refine gate_callee (f := 27) rfl ?_); refine goesL_ (some 57) rfl rfl Tryd.func27 (by kernel_rfl) rfl #[.slice A0 (l0.take (x9_20 : Int).toNat).length c0] rfl (by (try simp only [List.map_toArray, List.map_cons, List.map_nil]); first | done | (rw [show (l0.take (x9_20 : Int).toNat).length = x9_20.toNat from (by rw [List.length_take]; have h_ : (x9_20 : Int) ≤ (l0.length : Int) := of_decide_eq_true (by first | (with_reducible assumption) | assumption); omega)] <;> rfl) | rfl | (simp only [List.length_drop, List.length_take]; rfl)) ?_; (with_reducible refine (fugueref00_CopyBytes.calls kj20 _ _ (l0.take (x9_20 : Int).toNat) t269 _ ?side1 ?side2 A25.out).mono ?_); (case side1 => repeat (first | exact (Kd.C_below HR268.out HB.out) | (with_reducible refine Kd.C_alloc ?_ _) | (with_reducible refine Kd.C_drewN ?_ _) | (with_reducible refine Kd.C_drew ?_))); (case side2 => exact HC268.out); rintro e w27 ⟨v270, rfl, ho0, hb⟩; refine ⟨_, rfl, ?_⟩; have n0_ := Aside0.mk (Kd.R_below (by (with_reducible repeat (first | apply Kd.R_alloc | apply Kd.R_drewN | apply Kd.R_drew)); exact HO_268001.out) hb); have n1_ := Aside0.mk (Kd.R_lower ho0 (below_size (by repeat (first | (with_reducible first | exact HB.out | apply below_alloc | apply pw_below_drewN | apply below_drew1 | refine below_set ?_ GE267.out) | exact HB.out)))); have n2_ := Aside0.mk (blk_below (g := gb267) (o := .cells #[.int .i64 t261, .slice Ao13 t262.length co13] 24 (0, 0)) (by (with_reducible repeat (first | refine blk_drewN ?_ _ | refine blk_drew ?_ | refine blk_alloc ?_ _)); exact BK267.out) hb); have n3_ := Aside0.mk (below_step (by repeat (first | (with_reducible first | exact HB.out | apply below_alloc | apply pw_below_drewN | apply below_drew1 | refine below_set ?_ GE267.out) | exact HB.out)) hb); clear HO_268001; clear BK267; clear HB; have HO_268001 := n0_; have HO271 := n1_; have BK267 := n2_; have HB := n3_; clear n0_ n1_ n2_ n3_; (try clear hb); (try clear hb2); (try clear hk); (try clear hi); (try clear ho0)))
                      go_loopg [10, 11] kj20 (fun kq v10 v11 w' => ∃ (x10_4 : List Int) (x11_4 : Int), v11 = .int .i64 x11_4 ∧ Aside0 (fuguelaw01_CodeStays.l0 kq l1 t257 t265 t266 x10_4 x11_4 = some r) ∧ Aside0 (kq ≤ kj20) ∧ Aside0 (Kd.R (Kd.int .u8) 5 w' w.heap.size (fun _ => True) v10 x10_4) ∧ Aside0 (Kd.R k46 46 w' w.heap.size (fun _ => True) (.slice Ao13 t262.length co13) t262) ∧ Aside0 (w'.heap[gb267]? = some (.cells #[.int .i64 t261, (.slice Ao13 t262.length co13)] 24 (0, 0))) ∧ Aside0 (Below w.heap.size w w'))
                      case atStart => exact ⟨(t269), (0), (by first | rfl | (simp; done) | (simp [*]; done)), H', ⟨Nat.le_refl _⟩, ⟨by (with_reducible repeat (first | apply Kd.R_alloc | apply Kd.R_drewN | apply Kd.R_drew)); exact HO271.out⟩, ⟨by (with_reducible repeat (first | apply Kd.R_alloc | apply Kd.R_drewN | apply Kd.R_drew)); exact HO_268001.out⟩, ⟨by (with_reducible repeat (first | refine blk_drewN ?_ _ | refine blk_drew ?_ | refine blk_alloc ?_ _)); exact BK267.out⟩, ⟨by repeat (first | (with_reducible first | exact HB.out | apply below_alloc | apply pw_below_drewN | apply below_drew1 | refine below_set ?_ GE267.out) | exact HB.out)⟩⟩
                      case round =>
                        clear H'
                        try clear c1
                        try clear c2
                        try clear p2
                        try clear p6
                        try clear c9
                        try clear c10
                        try clear c14
                        try clear c14b0
                        try clear c14b1
                        try clear c15
                        try clear c15b0
                        try clear c15b1
                        try clear c16
                        try clear c16b0
                        try clear c16b1
                        try clear c17
                        try clear c19
                        try clear c19b0
                        try clear c20
                        try clear c22
                        try clear c22b0
                        try clear c23
                        try clear c23b0
                        try clear c23b1
                        try clear c24
                        try clear c24b0
                        try clear c24b1
                        try clear c27
                        try clear hcz12_0
                        try clear hcz12_1
                        try clear hfz12_0
                        try clear hfz12_1
                        try clear p2
                        try clear p6
                        obtain ⟨x10_4, x11_4, rfl, HA, HK4, HO_10, HO_268001, BK267, HB⟩ := hrel
                        cases gk with
                        | zero => exact absurd HA.out (by simp [fuguelaw01_CodeStays.l0])
                        | succ k4 =>
                          have H := HA.out
                          clear HA
                          simp only [fuguelaw01_CodeStays.l0] at H
                          by_cases c28 : x11_4 < (l1.length : Int)
                          · rw [if_pos c28] at H
                            have c28b0 : decide (x11_4 < (l1.length : Int)) = true := decide_eq_true c28
                            clear c28
                            by_cases c29 : 0 ≤ x11_4
                            · rw [if_pos c29] at H
                              have c29b0 : decide (0 ≤ x11_4) = true := decide_eq_true c29
                              clear c29
                              by_cases c30 : x10_4.length < 175921860444160
                              · rw [if_pos c30] at H
                                have LMc30 := Aside0.mk c30
                                clear c30
                                obtain ⟨y273, hy273⟩ : ∃ y_ : List Int, y_ = (x10_4 ++ [rd l1 x11_4]) := ⟨_, rfl⟩
                                replace H : (fuguelaw01_CodeStays.l0 k4 l1 t257 t265 t266 y273 (wrap64 (x11_4 + 1))) = some r := by first | (rw [hy273]; with_reducible exact H) | (have H2_ := (Option.bind_some _ _).symm.trans H; rw [hy273]; with_reducible exact H2_) | (have H2_ := (Option.bind_some _ _).symm.trans H; with_reducible exact H2_) | with_reducible exact H | (rw [hy273]; exact H) | exact H
                                have Ny273 := Aside0.mk hy273
                                clear hy273
                                have H' := Aside0.mk H
                                clear H
                                have p272 : 0 ≤ (x11_4 : Int) := of_decide_eq_true (by first | (with_reducible assumption) | assumption)
                                have q272 : x11_4 < (l1.length : Int) := of_decide_eq_true (by first | (with_reducible assumption) | assumption)
                                obtain ⟨ad272, e272, hx272_0⟩ := Kd.at_int HR1.out x11_4 p272 q272
                                cases e272
                                replace hx272_0 := (HB.out.cell (World.block_lt_of_cell? w _ hx272_0)).trans hx272_0
                                replace p272 := eq_true p272
                                replace q272 := eq_true q272
                                go_wp2_with (first | ((with_reducible refine gate_builtin (b := .append) (xs := #[.tmp 64, .tmp 69]) rfl ?_); (try (refine gate_guard (by rfl) ?_; dsimp only)); at_builtin; refine Kd.R_appendW (Kd.int .u8) (w0 := w) w.heap.size rfl (.tmp 64) (.tmp 69) 33 5 (.int .u8 0) 1 rfl Tryd.underlying33 info5 rfl (by decide) (by omega) (by omega) u10 x10_4 (rd l1 x11_4) [.int .u8 (rd l1 x11_4)] (fun _ => True) (fun _ => False) rfl rfl ?aP (fun _ hk => hk.elim) ?aF ?aO ?aB ?aS ?aL ?_; (case aP => exact rfl); (case aB => exact (by repeat (first | (with_reducible first | exact HB.out | apply below_alloc | apply pw_below_drewN | apply below_drew1 | refine below_set ?_ GE267.out) | exact HB.out))); (case aF => exact (fun _ _ => trivial)); (case aO => exact (by (with_reducible repeat (first | apply Kd.R_alloc | apply Kd.R_drewN | apply Kd.R_drew)); exact HO_10.out)); (case aS => exact (below_size (by repeat (first | (with_reducible first | exact HB.out | apply below_alloc | apply pw_below_drewN | apply below_drew1 | refine below_set ?_ GE267.out) | exact HB.out)))); (case aL => have := LMc30.out; omega); intro v274 w31 ho hb hg hat; rw [← Ny273.out] at ho; have n0_ := Aside0.mk (Kd.R_over' (by (with_reducible repeat (first | apply Kd.R_alloc | apply Kd.R_drewN | apply Kd.R_drew)); exact HO_268001.out) (Kd.R_typed (by (with_reducible repeat (first | apply Kd.R_alloc | apply Kd.R_drewN | apply Kd.R_drew)); exact HO_10.out)) (by decide) hg); have n1_ := Aside0.mk (blk_grown (g := gb267) (o := .cells #[.int .i64 t261, .slice Ao13 t262.length co13] 24 (0, 0)) (by (with_reducible repeat (first | refine blk_drewN ?_ _ | refine blk_drew ?_ | refine blk_alloc ?_ _)); exact BK267.out) hg (Kd.R_ne HO_10.out BK267.out (by decide))); have n2_ := Aside0.mk (hb); have n3_ := Aside0.mk (ho); clear HO_268001; clear BK267; clear HB; clear HO_10; have HO_268001 := n0_; have BK267 := n1_; have HB := n2_; have HO275 := n3_; clear n0_ n1_ n2_ n3_; clear ho hb hg hat))
                                go_roundg k4
                                case measure => have := HJ5.out; have := HJ17.out; have := HJ20.out; have := HK4.out; omega
                                case rel => exact ⟨(y273), (wrap64 (x11_4 + 1)), (by first | rfl | (simp; done) | (simp [*]; done)), H', ⟨by have := HJ5.out; have := HJ17.out; have := HJ20.out; have := HK4.out; omega⟩, ⟨by (with_reducible repeat (first | apply Kd.R_alloc | apply Kd.R_drewN | apply Kd.R_drew)); exact HO275.out⟩, ⟨by (with_reducible repeat (first | apply Kd.R_alloc | apply Kd.R_drewN | apply Kd.R_drew)); exact HO_268001.out⟩, ⟨by (with_reducible repeat (first | refine blk_drewN ?_ _ | refine blk_drew ?_ | refine blk_alloc ?_ _)); exact BK267.out⟩, ⟨by repeat (first | (with_reducible first | exact HB.out | apply below_alloc | apply pw_below_drewN | apply below_drew1 | refine below_set ?_ GE267.out) | exact HB.out)⟩⟩
                              · rw [if_neg c30] at H
                                exact absurd H (by simp)
                            · rw [if_neg c29] at H
                              exact absurd H (by simp)
                          · rw [if_neg c28] at H
                            have c28b0 : decide (x11_4 < (l1.length : Int)) = false := decide_eq_false c28
                            clear c28
                            replace H := Option.bind_eq_some_iff.mp H
                            obtain ⟨⟨t276, t277, t280, t281⟩, A320, H⟩ := H
                            replace H : (if t257 = true then (if t280 = t265 then (some (t281 == t266)) else (some false)) else (some false)) = some r := H
                            have A32 := Aside0.mk A320
                            clear A320
                            by_cases c33 : t257 = true
                            · subst c33
                              have H1 : (if t280 = t265 then (some (t281 == t266)) else (some false)) = some r := by rw [if_pos rfl] at H; exact H
                              clear H
                              have H := H1
                              clear H1
                              by_cases c34 : t280 = t265
                              · rw [if_pos c34] at H
                                have c34b0 : (t280 == t265) = true := beq_iff_eq.mpr c34
                                have c34b1 : (t280 != t265) = false := bne_eq_false_iff_eq.mpr c34
                                clear c34
                                obtain rfl := Option.some.inj H
                                obtain ⟨Ao35, co35, eo35⟩ := Kd.R_slice HO_10.out
                                subst eo35
                                go_wp2_with (first | ((with_reducible refine gate_callee (f := 24) rfl ?_); refine goesL_ (some 73) rfl rfl Tryd.func24 (by kernel_rfl) rfl #[.slice Ao35 x10_4.length co35] rfl (by (try simp only [List.map_toArray, List.map_cons, List.map_nil]); first | done | rfl | (simp only [List.length_drop, List.length_take]; rfl)) ?_; (with_reducible refine (code_Decode.calls _ _ x10_4 t276 t277 t280 t281 _ ?side1 ?side2 A32.out ?tab).mono ?_); (case tab => exact Tab.below HTab.out (by repeat (first | (with_reducible first | exact HB.out | apply below_alloc | apply pw_below_drewN | apply below_drew1 | refine below_set ?_ GE267.out) | exact HB.out))); (case side1 => repeat (first | exact (Kd.R_reads' HO_10.out).2.2 | (with_reducible refine Kd.C_alloc ?_ _) | (with_reducible refine Kd.C_drewN ?_ _) | (with_reducible refine Kd.C_drew ?_))); (case side2 => exact (Kd.R_reads' HO_10.out).2.1); rintro e w36 ⟨v278, rfl, ho0, hb⟩; refine ⟨_, rfl, ?_⟩; have n0_ := Aside0.mk (Kd.R_below (by (with_reducible repeat (first | apply Kd.R_alloc | apply Kd.R_drewN | apply Kd.R_drew)); exact HO_10.out) hb); have n1_ := Aside0.mk (Kd.R_elder' (by (with_reducible repeat (first | apply Kd.R_alloc | apply Kd.R_drewN | apply Kd.R_drew)); exact HO_268001.out) (Kd.R_base ho0) hb); have n2_ := Aside0.mk (Kd.R_lower (Kd.R_new' ho0 (Kd.R_lt (by (with_reducible repeat (first | apply Kd.R_alloc | apply Kd.R_drewN | apply Kd.R_drew)); exact HO_268001.out))) (below_size (by repeat (first | (with_reducible first | exact HB.out | apply below_alloc | apply pw_below_drewN | apply below_drew1 | refine below_set ?_ GE267.out) | exact HB.out)))); have n3_ := Aside0.mk (blk_below (g := gb267) (o := .cells #[.int .i64 t261, .slice Ao13 t262.length co13] 24 (0, 0)) (by (with_reducible repeat (first | refine blk_drewN ?_ _ | refine blk_drew ?_ | refine blk_alloc ?_ _)); exact BK267.out) hb); have n4_ := Aside0.mk (below_step (by repeat (first | (with_reducible first | exact HB.out | apply below_alloc | apply pw_below_drewN | apply below_drew1 | refine below_set ?_ GE267.out) | exact HB.out)) hb); clear HO_10; clear HO_268001; clear BK267; clear HB; have HO_10 := n0_; have HO_268001 := n1_; have HO279 := n2_; have BK267 := n3_; have HB := n4_; clear n0_ n1_ n2_ n3_ n4_; (try clear hb); (try clear hb2); (try clear hk); (try clear hi); (try clear ho0)) | ((with_reducible refine gate_dst (N := 12) rfl ?_); (try (refine gate_guard (by rfl) ?_; dsimp only)); refine box_event ?hg (N := 12) ?hd (cs := #[.int .i64 0, .slice none 0 0]) (t := 24) ?hr ?_; (case hd => rfl); (case hg => rfl); (case hr => first | (go_simp; done) | (go_simp; rfl)); intro gb282 hg w37 hbox hb; have n0_ := Aside0.mk (Kd.R_below (by (with_reducible repeat (first | apply Kd.R_alloc | apply Kd.R_drewN | apply Kd.R_drew)); exact HO_10.out) hb); have n1_ := Aside0.mk (Kd.R_below (by (with_reducible repeat (first | apply Kd.R_alloc | apply Kd.R_drewN | apply Kd.R_drew)); exact HO_268001.out) hb); have n2_ := Aside0.mk (Kd.R_below (by (with_reducible repeat (first | apply Kd.R_alloc | apply Kd.R_drewN | apply Kd.R_drew)); exact HO279.out) hb); have n3_ := Aside0.mk (blk_below (g := gb267) (o := .cells #[.int .i64 t261, .slice Ao13 t262.length co13] 24 (0, 0)) (by (with_reducible repeat (first | refine blk_drewN ?_ _ | refine blk_drew ?_ | refine blk_alloc ?_ _)); exact BK267.out) hb); have n4_ := Aside0.mk (below_step (by repeat (first | (with_reducible first | exact HB.out | apply below_alloc | apply pw_below_drewN | apply below_drew1 | refine below_set ?_ GE267.out) | exact HB.out)) hb); have n5_ := Aside0.mk (hbox); have n6_ := Aside0.mk ((by rw [hg]; exact (below_size (by repeat (first | (with_reducible first | exact HB.out | apply below_alloc | apply pw_below_drewN | apply below_drew1 | refine below_set ?_ GE267.out) | exact HB.out))) : w.heap.size ≤ gb282)); have n7_ := Aside0.mk ((by rw [hg]; exact (below_size (by repeat (first | (with_reducible first | exact HB.out | apply below_alloc | apply pw_below_drewN | apply below_drew1 | refine below_set ?_ GE267.out) | exact HB.out))) : w.heap.size ≤ gb282)); have n8_ := Aside0.mk ((by rw [hg]; exact Nat.ne_of_lt (blk_lt (g := gb267) (o := .cells #[.int .i64 t261, .slice Ao13 t262.length co13] 24 (0, 0)) (by (with_reducible repeat (first | refine blk_drewN ?_ _ | refine blk_drew ?_ | refine blk_alloc ?_ _)); exact BK267.out)) : gb267 ≠ gb282)); have n9_ := Aside0.mk ((by rw [hg]; exact Nat.ne_of_gt (blk_lt (g := gb267) (o := .cells #[.int .i64 t261, .slice Ao13 t262.length co13] 24 (0, 0)) (by (with_reducible repeat (first | refine blk_drewN ?_ _ | refine blk_drew ?_ | refine blk_alloc ?_ _)); exact BK267.out)) : gb282 ≠ gb267)); clear HO_10; clear HO_268001; clear HO279; clear BK267; clear HB; have HO_10 := n0_; have HO_268001 := n1_; have HO279 := n2_; have BK267 := n3_; have HB := n4_; have BK282 := n5_; have GW282 := n6_; have GE282 := n7_; have NB267_282 := n8_; have NB282_267 := n9_; clear n0_ n1_ n2_ n3_ n4_ n5_ n6_ n7_ n8_ n9_; clear hb hbox hg; have hnb38 := NB282_267.out; have hnc38 := NB267_282.out; have hcz39_0 : w37.cell? ⟨gb282, 0, none⟩ = some (.int .i64 0) := (blk_cell BK282.out 0).trans rfl; have hcz39_1 : w37.cell? ⟨gb282, 1, none⟩ = some (.slice none 0 0) := (blk_cell BK282.out 1).trans rfl; have hfz39_0 := blk_frozen BK282.out 0; have hfz39_1 := blk_frozen BK282.out 1; obtain ⟨Ao40, co40, eo40⟩ := Kd.R_slice HO279.out; subst eo40))
                                go_ret
                                exact ⟨by first | rfl | (simp [errW_none, errW_some] <;> rfl) | (simp [*, errW_none, errW_some] <;> rfl), by repeat (first | (with_reducible first | exact HB.out | apply below_alloc | apply pw_below_drewN | apply below_drew1 | refine below_set ?_ GE267.out | refine below_set ?_ GE282.out) | exact HB.out)⟩
                              · rw [if_neg c34] at H
                                have c34b0 : (t280 == t265) = false := beq_eq_false_iff_ne.mpr c34
                                have c34b1 : (t280 != t265) = true := bne_iff_ne.mpr c34
                                obtain rfl := Option.some.inj H
                                obtain ⟨Ao41, co41, eo41⟩ := Kd.R_slice HO_10.out
                                subst eo41
                                go_wp2_with (first | ((with_reducible refine gate_callee (f := 24) rfl ?_); refine goesL_ (some 73) rfl rfl Tryd.func24 (by kernel_rfl) rfl #[.slice Ao41 x10_4.length co41] rfl (by (try simp only [List.map_toArray, List.map_cons, List.map_nil]); first | done | rfl | (simp only [List.length_drop, List.length_take]; rfl)) ?_; (with_reducible refine (code_Decode.calls _ _ x10_4 t276 t277 t280 t281 _ ?side1 ?side2 A32.out ?tab).mono ?_); (case tab => exact Tab.below HTab.out (by repeat (first | (with_reducible first | exact HB.out | apply below_alloc | apply pw_below_drewN | apply below_drew1 | refine below_set ?_ GE267.out) | exact HB.out))); (case side1 => repeat (first | exact (Kd.R_reads' HO_10.out).2.2 | (with_reducible refine Kd.C_alloc ?_ _) | (with_reducible refine Kd.C_drewN ?_ _) | (with_reducible refine Kd.C_drew ?_))); (case side2 => exact (Kd.R_reads' HO_10.out).2.1); rintro e w42 ⟨v278, rfl, ho0, hb⟩; refine ⟨_, rfl, ?_⟩; have n0_ := Aside0.mk (Kd.R_below (by (with_reducible repeat (first | apply Kd.R_alloc | apply Kd.R_drewN | apply Kd.R_drew)); exact HO_10.out) hb); have n1_ := Aside0.mk (Kd.R_elder' (by (with_reducible repeat (first | apply Kd.R_alloc | apply Kd.R_drewN | apply Kd.R_drew)); exact HO_268001.out) (Kd.R_base ho0) hb); have n2_ := Aside0.mk (Kd.R_lower (Kd.R_new' ho0 (Kd.R_lt (by (with_reducible repeat (first | apply Kd.R_alloc | apply Kd.R_drewN | apply Kd.R_drew)); exact HO_268001.out))) (below_size (by repeat (first | (with_reducible first | exact HB.out | apply below_alloc | apply pw_below_drewN | apply below_drew1 | refine below_set ?_ GE267.out) | exact HB.out)))); have n3_ := Aside0.mk (blk_below (g := gb267) (o := .cells #[.int .i64 t261, .slice Ao13 t262.length co13] 24 (0, 0)) (by (with_reducible repeat (first | refine blk_drewN ?_ _ | refine blk_drew ?_ | refine blk_alloc ?_ _)); exact BK267.out) hb); have n4_ := Aside0.mk (below_step (by repeat (first | (with_reducible first | exact HB.out | apply below_alloc | apply pw_below_drewN | apply below_drew1 | refine below_set ?_ GE267.out) | exact HB.out)) hb); clear HO_10; clear HO_268001; clear BK267; clear HB; have HO_10 := n0_; have HO_268001 := n1_; have HO279 := n2_; have BK267 := n3_; have HB := n4_; clear n0_ n1_ n2_ n3_ n4_; (try clear hb); (try clear hb2); (try clear hk); (try clear hi); (try clear ho0)) | ((with_reducible refine gate_dst (N := 12) rfl ?_); (try (refine gate_guard (by rfl) ?_; dsimp only)); refine box_event ?hg (N := 12) ?hd (cs := #[.int .i64 0, .slice none 0 0]) (t := 24) ?hr ?_; (case hd => rfl); (case hg => rfl); (case hr => first | (go_simp; done) | (go_simp; rfl)); intro gb282 hg w43 hbox hb; have n0_ := Aside0.mk (Kd.R_below (by (with_reducible repeat (first | apply Kd.R_alloc | apply Kd.R_drewN | apply Kd.R_drew)); exact HO_10.out) hb); have n1_ := Aside0.mk (Kd.R_below (by (with_reducible repeat (first | apply Kd.R_alloc | apply Kd.R_drewN | apply Kd.R_drew)); exact HO_268001.out) hb); have n2_ := Aside0.mk (Kd.R_below (by (with_reducible repeat (first | apply Kd.R_alloc | apply Kd.R_drewN | apply Kd.R_drew)); exact HO279.out) hb); have n3_ := Aside0.mk (blk_below (g := gb267) (o := .cells #[.int .i64 t261, .slice Ao13 t262.length co13] 24 (0, 0)) (by (with_reducible repeat (first | refine blk_drewN ?_ _ | refine blk_drew ?_ | refine blk_alloc ?_ _)); exact BK267.out) hb); have n4_ := Aside0.mk (below_step (by repeat (first | (with_reducible first | exact HB.out | apply below_alloc | apply pw_below_drewN | apply below_drew1 | refine below_set ?_ GE267.out) | exact HB.out)) hb); have n5_ := Aside0.mk (hbox); have n6_ := Aside0.mk ((by rw [hg]; exact (below_size (by repeat (first | (with_reducible first | exact HB.out | apply below_alloc | apply pw_below_drewN | apply below_drew1 | refine below_set ?_ GE267.out) | exact HB.out))) : w.heap.size ≤ gb282)); have n7_ := Aside0.mk ((by rw [hg]; exact (below_size (by repeat (first | (with_reducible first | exact HB.out | apply below_alloc | apply pw_below_drewN | apply below_drew1 | refine below_set ?_ GE267.out) | exact HB.out))) : w.heap.size ≤ gb282)); have n8_ := Aside0.mk ((by rw [hg]; exact Nat.ne_of_lt (blk_lt (g := gb267) (o := .cells #[.int .i64 t261, .slice Ao13 t262.length co13] 24 (0, 0)) (by (with_reducible repeat (first | refine blk_drewN ?_ _ | refine blk_drew ?_ | refine blk_alloc ?_ _)); exact BK267.out)) : gb267 ≠ gb282)); have n9_ := Aside0.mk ((by rw [hg]; exact Nat.ne_of_gt (blk_lt (g := gb267) (o := .cells #[.int .i64 t261, .slice Ao13 t262.length co13] 24 (0, 0)) (by (with_reducible repeat (first | refine blk_drewN ?_ _ | refine blk_drew ?_ | refine blk_alloc ?_ _)); exact BK267.out)) : gb282 ≠ gb267)); clear HO_10; clear HO_268001; clear HO279; clear BK267; clear HB; have HO_10 := n0_; have HO_268001 := n1_; have HO279 := n2_; have BK267 := n3_; have HB := n4_; have BK282 := n5_; have GW282 := n6_; have GE282 := n7_; have NB267_282 := n8_; have NB282_267 := n9_; clear n0_ n1_ n2_ n3_ n4_ n5_ n6_ n7_ n8_ n9_; clear hb hbox hg; have hnb44 := NB282_267.out; have hnc44 := NB267_282.out; have hcz45_0 : w43.cell? ⟨gb282, 0, none⟩ = some (.int .i64 0) := (blk_cell BK282.out 0).trans rfl; have hcz45_1 : w43.cell? ⟨gb282, 1, none⟩ = some (.slice none 0 0) := (blk_cell BK282.out 1).trans rfl; have hfz45_0 := blk_frozen BK282.out 0; have hfz45_1 := blk_frozen BK282.out 1; obtain ⟨Ao46, co46, eo46⟩ := Kd.R_slice HO279.out; subst eo46))
                                go_ret
                                exact ⟨by first | rfl | (simp [errW_none, errW_some] <;> rfl) | (simp [*, errW_none, errW_some] <;> rfl), by repeat (first | (with_reducible first | exact HB.out | apply below_alloc | apply pw_below_drewN | apply below_drew1 | refine below_set ?_ GE267.out | refine below_set ?_ GE282.out) | exact HB.out)⟩
                            · replace c33 := Bool.eq_false_iff.mpr c33
                              subst c33
                              have H1 : (some false) = some r := by rw [if_neg (show ¬ (false = true) by decide)] at H; exact H
                              clear H
                              have H := H1
                              clear H1
                              obtain rfl := Option.some.inj H
                              obtain ⟨Ao47, co47, eo47⟩ := Kd.R_slice HO_10.out
                              subst eo47
                              go_wp2_with (first | ((with_reducible refine gate_callee (f := 24) rfl ?_); refine goesL_ (some 73) rfl rfl Tryd.func24 (by kernel_rfl) rfl #[.slice Ao47 x10_4.length co47] rfl (by (try simp only [List.map_toArray, List.map_cons, List.map_nil]); first | done | rfl | (simp only [List.length_drop, List.length_take]; rfl)) ?_; (with_reducible refine (code_Decode.calls _ _ x10_4 t276 t277 t280 t281 _ ?side1 ?side2 A32.out ?tab).mono ?_); (case tab => exact Tab.below HTab.out (by repeat (first | (with_reducible first | exact HB.out | apply below_alloc | apply pw_below_drewN | apply below_drew1 | refine below_set ?_ GE267.out) | exact HB.out))); (case side1 => repeat (first | exact (Kd.R_reads' HO_10.out).2.2 | (with_reducible refine Kd.C_alloc ?_ _) | (with_reducible refine Kd.C_drewN ?_ _) | (with_reducible refine Kd.C_drew ?_))); (case side2 => exact (Kd.R_reads' HO_10.out).2.1); rintro e w48 ⟨v278, rfl, ho0, hb⟩; refine ⟨_, rfl, ?_⟩; have n0_ := Aside0.mk (Kd.R_below (by (with_reducible repeat (first | apply Kd.R_alloc | apply Kd.R_drewN | apply Kd.R_drew)); exact HO_10.out) hb); have n1_ := Aside0.mk (Kd.R_elder' (by (with_reducible repeat (first | apply Kd.R_alloc | apply Kd.R_drewN | apply Kd.R_drew)); exact HO_268001.out) (Kd.R_base ho0) hb); have n2_ := Aside0.mk (Kd.R_lower (Kd.R_new' ho0 (Kd.R_lt (by (with_reducible repeat (first | apply Kd.R_alloc | apply Kd.R_drewN | apply Kd.R_drew)); exact HO_268001.out))) (below_size (by repeat (first | (with_reducible first | exact HB.out | apply below_alloc | apply pw_below_drewN | apply below_drew1 | refine below_set ?_ GE267.out) | exact HB.out)))); have n3_ := Aside0.mk (blk_below (g := gb267) (o := .cells #[.int .i64 t261, .slice Ao13 t262.length co13] 24 (0, 0)) (by (with_reducible repeat (first | refine blk_drewN ?_ _ | refine blk_drew ?_ | refine blk_alloc ?_ _)); exact BK267.out) hb); have n4_ := Aside0.mk (below_step (by repeat (first | (with_reducible first | exact HB.out | apply below_alloc | apply pw_below_drewN | apply below_drew1 | refine below_set ?_ GE267.out) | exact HB.out)) hb); clear HO_10; clear HO_268001; clear BK267; clear HB; have HO_10 := n0_; have HO_268001 := n1_; have HO279 := n2_; have BK267 := n3_; have HB := n4_; clear n0_ n1_ n2_ n3_ n4_; (try clear hb); (try clear hb2); (try clear hk); (try clear hi); (try clear ho0)) | ((with_reducible refine gate_dst (N := 12) rfl ?_); (try (refine gate_guard (by rfl) ?_; dsimp only)); refine box_event ?hg (N := 12) ?hd (cs := #[.int .i64 0, .slice none 0 0]) (t := 24) ?hr ?_; (case hd => rfl); (case hg => rfl); (case hr => first | (go_simp; done) | (go_simp; rfl)); intro gb282 hg w49 hbox hb; have n0_ := Aside0.mk (Kd.R_below (by (with_reducible repeat (first | apply Kd.R_alloc | apply Kd.R_drewN | apply Kd.R_drew)); exact HO_10.out) hb); have n1_ := Aside0.mk (Kd.R_below (by (with_reducible repeat (first | apply Kd.R_alloc | apply Kd.R_drewN | apply Kd.R_drew)); exact HO_268001.out) hb); have n2_ := Aside0.mk (Kd.R_below (by (with_reducible repeat (first | apply Kd.R_alloc | apply Kd.R_drewN | apply Kd.R_drew)); exact HO279.out) hb); have n3_ := Aside0.mk (blk_below (g := gb267) (o := .cells #[.int .i64 t261, .slice Ao13 t262.length co13] 24 (0, 0)) (by (with_reducible repeat (first | refine blk_drewN ?_ _ | refine blk_drew ?_ | refine blk_alloc ?_ _)); exact BK267.out) hb); have n4_ := Aside0.mk (below_step (by repeat (first | (with_reducible first | exact HB.out | apply below_alloc | apply pw_below_drewN | apply below_drew1 | refine below_set ?_ GE267.out) | exact HB.out)) hb); have n5_ := Aside0.mk (hbox); have n6_ := Aside0.mk ((by rw [hg]; exact (below_size (by repeat (first | (with_reducible first | exact HB.out | apply below_alloc | apply pw_below_drewN | apply below_drew1 | refine below_set ?_ GE267.out) | exact HB.out))) : w.heap.size ≤ gb282)); have n7_ := Aside0.mk ((by rw [hg]; exact (below_size (by repeat (first | (with_reducible first | exact HB.out | apply below_alloc | apply pw_below_drewN | apply below_drew1 | refine below_set ?_ GE267.out) | exact HB.out))) : w.heap.size ≤ gb282)); have n8_ := Aside0.mk ((by rw [hg]; exact Nat.ne_of_lt (blk_lt (g := gb267) (o := .cells #[.int .i64 t261, .slice Ao13 t262.length co13] 24 (0, 0)) (by (with_reducible repeat (first | refine blk_drewN ?_ _ | refine blk_drew ?_ | refine blk_alloc ?_ _)); exact BK267.out)) : gb267 ≠ gb282)); have n9_ := Aside0.mk ((by rw [hg]; exact Nat.ne_of_gt (blk_lt (g := gb267) (o := .cells #[.int .i64 t261, .slice Ao13 t262.length co13] 24 (0, 0)) (by (with_reducible repeat (first | refine blk_drewN ?_ _ | refine blk_drew ?_ | refine blk_alloc ?_ _)); exact BK267.out)) : gb282 ≠ gb267)); clear HO_10; clear HO_268001; clear HO279; clear BK267; clear HB; have HO_10 := n0_; have HO_268001 := n1_; have HO279 := n2_; have BK267 := n3_; have HB := n4_; have BK282 := n5_; have GW282 := n6_; have GE282 := n7_; have NB267_282 := n8_; have NB282_267 := n9_; clear n0_ n1_ n2_ n3_ n4_ n5_ n6_ n7_ n8_ n9_; clear hb hbox hg; have hnb50 := NB282_267.out; have hnc50 := NB267_282.out; have hcz51_0 : w49.cell? ⟨gb282, 0, none⟩ = some (.int .i64 0) := (blk_cell BK282.out 0).trans rfl; have hcz51_1 : w49.cell? ⟨gb282, 1, none⟩ = some (.slice none 0 0) := (blk_cell BK282.out 1).trans rfl; have hfz51_0 := blk_frozen BK282.out 0; have hfz51_1 := blk_frozen BK282.out 1; obtain ⟨Ao52, co52, eo52⟩ := Kd.R_slice HO279.out; subst eo52))
                              go_ret
                              exact ⟨by first | rfl | (simp [errW_none, errW_some] <;> rfl) | (simp [*, errW_none, errW_some] <;> rfl), by repeat (first | (with_reducible first | exact HB.out | apply below_alloc | apply pw_below_drewN | apply below_drew1 | refine below_set ?_ GE267.out | refine below_set ?_ GE282.out) | exact HB.out)⟩
                    · rw [if_neg c24] at H
                      exact absurd H (by simp)
                  · rw [if_neg c23] at H
                    exact absurd H (by simp)
end Go.Proofs.YteonppgdmhakoaaDoor.PC
namespace Go.Proofs.YteonppgdmhakoaaDoor.PC
open Go.RowKit Go.Proofs.YteonppgdmhakoaaDoorW.PrintWords Go.Proofs.YteonppgdmhakoaaDoorW.PrintLast Go.Proofs.YteonppgdmhakoaaDoorW.PrintMore
set_option linter.unusedVariables false
set_option linter.unusedSimpArgs false
abbrev Bytes (bs : List Int) : Prop := ∀ x ∈ bs, 0 ≤ x ∧ x ≤ 255
def Ag (n : Nat) (bs bs' : List Int) : Prop := n ≤ bs'.length ∧ ∀ i, i < n → bs'.getD i 0 = bs.getD i 0
theorem Ag.mono {m n : Nat} {bs bs' : List Int} (h : Ag n bs bs') (hm : m ≤ n) : Ag m bs bs' := ⟨Nat.le_trans hm h.1, fun i hi => h.2 i (Nat.lt_of_lt_of_le hi hm)⟩
theorem Ag.take {n : Nat} {bs bs' : List Int} (h : Ag n bs bs') (hn : n ≤ bs.length) : bs'.take n = bs.take n := by
  have h1 := h.1
  apply List.ext_getElem
  · rw [List.length_take, List.length_take]; omega
  · intro i hi hj
    rw [List.length_take] at hi hj
    have := h.2 i (by omega)
    rw [List.getD_eq_getElem?_getD, List.getD_eq_getElem?_getD, List.getElem?_eq_getElem (by omega), List.getElem?_eq_getElem (by omega)] at this
    rw [List.getElem_take, List.getElem_take]
    exact this
abbrev Ex (α : Type) := Except (Int × Int) α
def bindE {α β : Type} (x : Ex α) (g : α → Ex β) : Ex β := match x with
  | .error e => .error e
  | .ok a => g a
structure LocR {α : Type} (p M : Nat) (f : List Int → Ex α) (e : α → Nat) : Prop where
  ok : ∀ bs a, Bytes bs → p ≤ bs.length → f bs = .ok a → p ≤ e a ∧ e a ≤ bs.length ∧ e a ≤ p + M
  same : ∀ bs a bs', Bytes bs → p ≤ bs.length → f bs = .ok a → Ag (e a) bs bs' → f bs' = .ok a
  cut : ∀ bs a bs', Bytes bs → p ≤ bs.length → f bs = .ok a → p ≤ bs'.length → bs'.length < e a → Ag bs'.length bs bs' → f bs' = .error (11, bs'.length)
  err : ∀ bs er, Bytes bs → p ≤ bs.length → f bs = .error er → er = (11, (bs.length : Int)) ∨ er = (10, 0) ∨ ∃ q k : Nat, er.2 = q ∧ k ≤ 5 ∧ p ≤ q ∧ q ≤ p + M ∧ q + k ≤ bs.length ∧ ∀ bs', Ag (q + k) bs bs' → f bs' = .error er
section
variable {α β σ : Type}
theorem LocR.congr {p M : Nat} {f f' : List Int → Ex α} {e : α → Nat} (h : LocR p M f e) (he : ∀ bs, f' bs = f bs) : LocR p M f' e := by
  obtain rfl : f' = f := funext he
  exact h
theorem LocR.mono {p M M' : Nat} {f : List Int → Ex α} {e : α → Nat} (h : LocR p M f e) (hM : M ≤ M') : LocR p M' f e where
  ok := fun bs a hb hp hf => ⟨(h.ok bs a hb hp hf).1, (h.ok bs a hb hp hf).2.1, by have := (h.ok bs a hb hp hf).2.2; omega⟩
  same := h.same
  cut := h.cut
  err := fun bs er hb hp hf => by
    rcases h.err bs er hb hp hf with r | r | ⟨q, k, r1, r2, r3, r4, r5⟩
    · exact .inl r
    · exact .inr (.inl r)
    · exact .inr (.inr ⟨q, k, r1, r2, r3, by omega, r5⟩)
theorem LocR.bind {p M1 M2 : Nat} {f : List Int → Ex α} {e : α → Nat} {g : α → List Int → Ex β} {e2 : β → Nat} (hf : LocR p M1 f e) (P : α → Prop) (hP : ∀ bs a, Bytes bs → p ≤ bs.length → f bs = .ok a → P a) (hg : ∀ a, P a → LocR (e a) M2 (g a) e2) : LocR p (M1 + M2) (fun bs => bindE (f bs) fun a => g a bs) e2 where
  ok := fun bs b hb hp h => by
    cases hq : f bs with
    | error er => simp only [hq, bindE] at h; cases h
    | ok a =>
      simp only [hq, bindE] at h
      have h1 := hf.ok bs a hb hp hq
      have h2 := (hg a (hP bs a hb hp hq)).ok bs b hb h1.2.1 h
      omega
  same := fun bs b bs' hb hp h ha => by
    cases hq : f bs with
    | error er => simp only [hq, bindE] at h; cases h
    | ok a =>
      simp only [hq, bindE] at h
      have h1 := hf.ok bs a hb hp hq
      have h2 := (hg a (hP bs a hb hp hq)).ok bs b hb h1.2.1 h
      simp only [hf.same bs a bs' hb hp hq (ha.mono h2.1), bindE]
      exact (hg a (hP bs a hb hp hq)).same bs b bs' hb h1.2.1 h ha
  cut := fun bs b bs' hb hp h hp' hl ha => by
    cases hq : f bs with
    | error er => simp only [hq, bindE] at h; cases h
    | ok a =>
      simp only [hq, bindE] at h
      have h1 := hf.ok bs a hb hp hq
      rcases Nat.lt_or_ge bs'.length (e a) with c | c
      · simp only [hf.cut bs a bs' hb hp hq hp' c ha, bindE]
      · simp only [hf.same bs a bs' hb hp hq (ha.mono c), bindE]
        exact (hg a (hP bs a hb hp hq)).cut bs b bs' hb h1.2.1 h c hl ha
  err := fun bs er hb hp h => by
    cases hq : f bs with
    | error er1 =>
      simp only [hq, bindE] at h
      injection h with h
      subst h
      rcases hf.err bs er1 hb hp hq with r | r | ⟨q, k, r1, r2, r3, r4, r5, r6⟩
      · exact .inl r
      · exact .inr (.inl r)
      · exact .inr (.inr ⟨q, k, r1, r2, r3, by omega, r5, fun bs' ha => by simp only [r6 bs' ha, bindE]⟩)
    | ok a =>
      simp only [hq, bindE] at h
      have h1 := hf.ok bs a hb hp hq
      rcases (hg a (hP bs a hb hp hq)).err bs er hb h1.2.1 h with r | r | ⟨q, k, r1, r2, r3, r4, r5, r6⟩
      · exact .inl r
      · exact .inr (.inl r)
      · exact .inr (.inr ⟨q, k, r1, r2, by omega, by omega, r5, fun bs' ha => by
          simp only [hf.same bs a bs' hb hp hq (ha.mono (by omega)), bindE]
          exact r6 bs' ha⟩)
theorem LocR.peek {p : Nat} (X : List Int → α) (e : α → Nat) (he : ∀ bs, e (X bs) = p) (hX : ∀ bs bs', Ag p bs bs' → X bs' = X bs) : LocR p 0 (fun bs => .ok (X bs)) e where
  ok := fun bs a hb hp h => by injection h with h; subst h; have := he bs; omega
  same := fun bs a bs' hb hp h ha => by
    injection h with h
    subst h
    show Except.ok (X bs') = _
    rw [hX bs bs' (by rw [he bs] at ha; exact ha)]
  cut := fun bs a bs' hb hp h hp' hl ha => by injection h with h; subst h; have := he bs; omega
  err := fun bs er hb hp h => by cases h
theorem LocR.field {p k : Nat} (X : List Int → α) (E : List Int → Int) (e : α → Nat) (he : ∀ bs, e (X bs) = p + k) (hX : ∀ bs bs', Ag (p + k) bs bs' → X bs' = X bs) (hE : ∀ bs bs', Ag (p + k) bs bs' → E bs' = E bs) (hk : (∀ bs, E bs = 0) ∨ k ≤ 5) : LocR p k (fun bs => if p + k ≤ bs.length then (if E bs = 0 then .ok (X bs) else .error (E bs, (p : Int))) else .error (11, (bs.length : Int))) e where
  ok := fun bs a hb hp h => by
    split at h
    · split at h
      · injection h with h; subst h; have := he bs; omega
      · cases h
    · cases h
  same := fun bs a bs' hb hp h ha => by
    split at h
    · split at h
      · rename_i c
        injection h with h; subst h
        rw [he bs] at ha
        have h1 := ha.1
        rw [if_pos h1, hE bs bs' ha, if_pos c, hX bs bs' ha]
      · cases h
    · cases h
  cut := fun bs a bs' hb hp h hp' hl ha => by
    split at h
    · split at h
      · injection h with h; subst h
        have := he bs
        rw [if_neg (by omega)]
      · cases h
    · cases h
  err := fun bs er hb hp h => by
    split at h
    · rename_i c
      split at h
      · cases h
      · rename_i c1
        injection h with h
        subst h
        rcases hk with hk | hk
        · exact absurd (hk bs) c1
        · refine .inr (.inr ⟨p, k, rfl, hk, Nat.le_refl _, Nat.le_add_right _ _, c, fun bs' ha => ?_⟩)
          have h1 := ha.1
          rw [if_pos h1, hE bs bs' ha, if_neg c1]
    · injection h with h
      subst h
      exact .inl rfl
theorem runE_bind {step : Nat → σ → Ex σ} {s0 : σ} (n : Nat) : runE step s0 (n + 1) = bindE (runE step s0 n) (step n) := by
  cases h : runE step s0 n with
  | error e => rw [runE_err h (n + 1) (by omega)]; rfl
  | ok s => rw [runE_next h]; rfl
theorem runE_congr {step step' : Nat → σ → Ex σ} {s0 : σ} : ∀ n : Nat, (∀ q, q < n → ∀ s, step q s = step' q s) → runE step s0 n = runE step' s0 n
  | 0, _ => rfl
  | n + 1, h => by
    rw [runE_bind, runE_bind, runE_congr n (fun q hq s => h q (by omega) s)]
    cases runE step' s0 n with
    | error e => rfl
    | ok s => exact h n (by omega) s
theorem LocR.run {e : Nat → σ → Nat} {M : Nat} (step : List Int → Nat → σ → Ex σ) (s0 : σ) (P : Nat → σ → Prop) (N : Nat) (hP : ∀ n s bs, n < N → Bytes bs → e 0 s0 ≤ bs.length → runE (step bs) s0 n = .ok s → P n s) (hs : ∀ n s, n < N → P n s → LocR (e n s) M (fun bs => step bs n s) (e (n + 1))) : ∀ n, n ≤ N → LocR (e 0 s0) (n * M) (fun bs => runE (step bs) s0 n) (e n)
  | 0, hn => by
    rw [Nat.zero_mul]
    exact LocR.peek (fun _ => s0) _ (fun _ => rfl) (fun _ _ _ => rfl)
  | n + 1, hn => by
    rw [Nat.succ_mul]
    exact ((LocR.run step s0 P N hP hs n (by omega)).bind (P n) (fun bs s hb hp h => hP n s bs (by omega) hb hp h) (fun s hp => hs n s (by omega) hp)).congr (fun bs => runE_bind n)
end
theorem upN_ag {p k : Nat} {bs bs' : List Int} (h : Ag (p + k) bs bs') : ∀ m, m ≤ k → upN bs' p k m = upN bs p k m
  | 0, _ => rfl
  | m + 1, hm => by
    show upN bs' p k m * 256 + bs'.getD (p + (k - 1 - m)) 0 = upN bs p k m * 256 + bs.getD (p + (k - 1 - m)) 0
    rw [upN_ag h m (by omega), h.2 (p + (k - 1 - m)) (by omega)]
theorem takeF_loc {nx k : Nat} (X : List Int → S50) (E : List Int → Int) (hX : ∀ bs bs', Ag (nx + k) bs bs' → X bs' = X bs) (hE : ∀ bs bs', Ag (nx + k) bs bs' → E bs' = E bs) (hk : (∀ bs, E bs = 0) ∨ k ≤ 5) : LocR nx k (fun bs => takeF bs nx k (X bs) (E bs)) (fun s => s.2) :=
  (LocR.field (fun bs => (X bs, nx + k)) E (fun s => s.2) (fun _ => rfl) (fun bs bs' h => by rw [hX bs bs' h]) hE hk).congr (fun bs => rfl)
def listStep (V : Int) (p : Nat) (bs : List Int) (q : Nat) (l : List Int) : Ex (List Int) :=
  if p + q + 1 ≤ bs.length then (if (if bs.getD (p + q) 0 < V then (0 : Int) else 13) = 0 then .ok (l ++ [bs.getD (p + q) 0]) else .error ((if bs.getD (p + q) 0 < V then (0 : Int) else 13), ((p + q : Nat) : Int))) else .error (11, bs.length)
theorem listR_run (bs : List Int) (V : Int) (p : Nat) : ∀ q, listR bs V p q = runE (listStep V p bs) [] q
  | 0 => rfl
  | q + 1 => by
    rw [runE_bind, ← listR_run bs V p q]
    cases h : listR bs V p q with
    | error e => rw [listR_err h (q + 1) (by omega)]; rfl
    | ok l =>
      rw [listR_next h]
      show _ = listStep V p bs q l
      unfold listStep
      by_cases c : bs.getD (p + q) 0 < V
      · rw [if_pos c, if_pos c, if_pos rfl]
      · rw [if_neg c, if_neg c, if_neg (show ¬ (13 : Int) = 0 by decide)]
theorem listR_loc (V : Int) (p q : Nat) : LocR p (q * 1) (fun bs => listR bs V p q) (fun _ => p + q) :=
  (LocR.run (e := fun i _ => p + i) (M := 1) (listStep V p) [] (fun _ _ => True) q (fun _ _ _ _ _ _ _ => trivial) (fun i l _ _ =>
    LocR.field (p := p + i) (k := 1) (fun bs => l ++ [bs.getD (p + i) 0]) (fun bs => if bs.getD (p + i) 0 < V then (0 : Int) else 13) (fun _ => p + (i + 1)) (fun _ => by omega)
      (fun bs bs' h => by rw [h.2 (p + i) (by omega)]) (fun bs bs' h => by rw [h.2 (p + i) (by omega)]) (.inr (by omega))) q (Nat.le_refl _)).congr (fun bs => listR_run bs V p q)
theorem takeL_loc (nx : Nat) (W V : Int) (x : S50) (j : Nat) : LocR nx 256 (fun bs => takeL bs nx W V x j) (fun s => s.2) := by
  have h1 := LocR.field (p := nx) (k := 1) (fun bs => bs.getD nx 0) (fun bs => if bs.getD nx 0 = W then (0 : Int) else 15) (fun _ => nx + 1) (fun _ => rfl) (fun bs bs' h => h.2 nx (by omega)) (fun bs bs' h => by rw [h.2 nx (by omega)]) (.inr (by omega))
  have h2 := h1.bind (M2 := 255) (β := S50 × Nat) (g := fun (c : Int) bs => bindE (listR bs V (nx + 1) c.toNat) fun l => Except.ok (setL x j l, nx + 1 + c.toNat)) (e2 := fun s => s.2) (fun c => c ≤ 255) (fun bs a hb hp (h : (if nx + 1 ≤ bs.length then (if (if bs.getD nx 0 = W then (0 : Int) else 15) = 0 then (.ok (bs.getD nx 0) : Ex Int) else .error ((if bs.getD nx 0 = W then (0 : Int) else 15), (nx : Int))) else .error (11, (bs.length : Int))) = .ok a) => by
      split at h
      · split at h
        · injection h with h
          subst h
          exact (byte_at hb nx).2
        · cases h
      · cases h) (fun c hc => ((listR_loc V (nx + 1) c.toNat).bind (M2 := 0) (g := fun l _ => Except.ok (setL x j l, nx + 1 + c.toNat)) (e2 := fun s => s.2) (fun _ => True) (fun _ _ _ _ _ => trivial) (fun l _ => LocR.peek (fun _ => (setL x j l, nx + 1 + c.toNat)) _ (fun _ => rfl) (fun _ _ _ => rfl))).mono (by omega))
  refine h2.congr fun bs => ?_
  unfold takeL
  split
  · by_cases c : bs.getD nx 0 = W
    · rw [if_pos c, if_pos c, if_pos rfl]
      show _ = bindE (listR bs V (nx + 1) (bs.getD nx 0).toNat) _
      cases listR bs V (nx + 1) (bs.getD nx 0).toNat <;> rfl
    · rw [if_neg c, if_neg c, if_neg (by decide)]
      rfl
  · rfl
theorem numX_ag {nx : Nat} {x : S50} {bs bs' : List Int} (h : Ag (nx + (tabL.getD x.f0.toNat 0).toNat) bs bs') : numX bs' nx x = numX bs nx x := by
  unfold numX
  rw [upN_ag h _ (Nat.le_refl _)]
theorem tab_le8 (op : Nat) : (tabL.getD op 0).toNat ≤ 8 := by
  rcases op with _ | _ | _ | _ | _ | _ | _ | _ | _ | _ | _ | _ | _ | _ | _ | op <;> first | decide | (simp [tabL])
theorem takeS_loc (G : Int) (fs : List S46) (R V m : Int) (x : S50) (nx : Nat) (pk : PK) (hk : pk ≠ .int → pk ≠ .R → (tabL.getD x.f0.toNat 0).toNat ≤ 5) : LocR nx 256 (fun bs => takeS G fs R V m bs x nx pk) (fun s => s.2) := by
  have var : ∀ i (E : S50 → Int), LocR nx 256 (fun bs => takeF bs nx 1 (setF x i (bs.getD nx 0)) (E (setF x i (bs.getD nx 0)))) (fun s => s.2) := fun i E =>
    (takeF_loc (fun bs => setF x i (bs.getD nx 0)) (fun bs => E (setF x i (bs.getD nx 0))) (fun bs bs' h => by rw [h.2 nx (by omega)]) (fun bs bs' h => by rw [h.2 nx (by omega)]) (.inr (by omega))).mono (by omega)
  have num : ∀ (E : S50 → Int), ((∀ y, E y = 0) ∨ (tabL.getD x.f0.toNat 0).toNat ≤ 5) → LocR nx 256 (fun bs => takeF bs nx (tabL.getD x.f0.toNat 0).toNat (numX bs nx x) (E (numX bs nx x))) (fun s => s.2) := fun E hE =>
    (takeF_loc (fun bs => numX bs nx x) (fun bs => E (numX bs nx x)) (fun bs bs' h => numX_ag h) (fun bs bs' h => by rw [numX_ag h]) (hE.imp (fun h bs => h _) id)).mono (by have := tab_le8 x.f0.toNat; omega)
  cases pk with
  | R => exact var 1 (fun y => partE G fs R V m y .R)
  | S => exact var 2 (fun y => partE G fs R V m y .S)
  | T => exact var 3 (fun y => partE G fs R V m y .T)
  | int => exact num (fun y => partE G fs R V m y .int) (.inl fun _ => rfl)
  | fields => exact num (fun y => partE G fs R V m y .fields) (.inr (hk (by intro h; cases h) (by intro h; cases h)))
  | field => exact num (fun y => partE G fs R V m y .field) (.inr (hk (by intro h; cases h) (by intro h; cases h)))
  | glob => exact num (fun y => partE G fs R V m y .glob) (.inr (hk (by intro h; cases h) (by intro h; cases h)))
  | func => exact num (fun y => partE G fs R V m y .func) (.inr (hk (by intro h; cases h) (by intro h; cases h)))
  | jump => exact num (fun y => partE G fs R V m y .jump) (.inr (hk (by intro h; cases h) (by intro h; cases h)))
  | args => exact takeL_loc nx _ V x 5
  | rets => exact takeL_loc nx _ V x 6
  | vals => exact takeL_loc nx R V x 5
theorem parts_tab (op j : Nat) (pk : PK) (h : (partsOf op)[j]? = some pk) (hp : pk ≠ .int) (hp2 : pk ≠ .R) : (tabL.getD op 0).toNat ≤ 5 := by
  rcases op with _ | _ | op
  · decide
  · rcases j with _ | _ | j
    · simp [partsOf] at h
      exact absurd h.symm hp2
    · simp [partsOf] at h
      exact absurd h.symm hp
    · simp [partsOf] at h
  · rcases op with _ | _ | _ | _ | _ | _ | _ | _ | _ | _ | _ | _ | _ | op <;> first | decide | (simp [tabL])
end Go.Proofs.YteonppgdmhakoaaDoor.PC
namespace Go.Proofs.YteonppgdmhakoaaDoor.PC
open Go.RowKit Go.Proofs.YteonppgdmhakoaaDoorW.PrintWords Go.Proofs.YteonppgdmhakoaaDoorW.PrintLast Go.Proofs.YteonppgdmhakoaaDoorW.PrintMore
set_option linter.unusedVariables false
set_option linter.unusedSimpArgs false
theorem partsOf_le (op : Nat) : (partsOf op).length ≤ 3 := by
  rcases op with _ | _ | _ | _ | _ | _ | _ | _ | _ | _ | _ | _ | _ | _ | _ | _ | _ | _ | op <;> first | decide | (simp [partsOf])
theorem partsR_loc (G : Int) (fs : List S46) (R V m : Int) (x0 : S50) (nx0 : Nat) (h5 : x0.f5 = []) (h6 : x0.f6 = []) (n : Nat) : LocR nx0 (n * 256) (fun bs => partsR G fs R V m bs x0.f0.toNat x0 nx0 n) (fun s => s.2) :=
  LocR.run (e := fun _ s => s.2) (M := 256) (fun bs j s => match (partsOf x0.f0.toNat)[j]? with | some pk => takeS G fs R V m bs s.1 s.2 pk | none => .ok s) (x0, nx0) (fun _ s => s.1.f0 = x0.f0) n
    (fun j s bs _ hb hp h => (partsR_inv hb h5 h6 hp j s h).1)
    (fun j s _ h0 => by
      cases e : (partsOf x0.f0.toNat)[j]? with
      | none =>
        simp only
        exact (LocR.peek (fun _ => s) (fun s => s.2) (fun _ => rfl) (fun _ _ _ => rfl)).mono (by omega)
      | some pk =>
        simp only
        exact takeS_loc G fs R V m s.1 s.2 pk (fun h1 h2 => by rw [h0]; exact parts_tab _ j pk e h1 h2)) n (Nat.le_refl _)
theorem instrR_loc (G : Int) (fs : List S46) (R V m : Int) (last : Bool) (nx : Nat) (locs : Int) : LocR nx 769 (fun bs => instrR G fs R V m bs last nx locs) (fun t => t.2.1) := by
  have h1 := LocR.field (p := nx) (k := 1) (fun bs => bs.getD nx 0) (fun bs => opE locs (x0Of (bs.getD nx 0)) last) (fun _ => nx + 1) (fun _ => rfl) (fun bs bs' h => h.2 nx (by omega)) (fun bs bs' h => by rw [h.2 nx (by omega)]) (.inr (by omega))
  have h2 := h1.bind (M2 := 768) (β := S50 × Nat × Int) (g := fun (v : Int) bs => bindE (partsR G fs R V m bs v.toNat (x0Of v) (nx + 1) (partsOf v.toNat).length) fun s => Except.ok (s.1, s.2, locs + newL (x0Of v))) (e2 := fun t => t.2.1) (fun _ => True) (fun _ _ _ _ _ => trivial) (fun v _ =>
    ((partsR_loc G fs R V m (x0Of v) (nx + 1) rfl rfl (partsOf v.toNat).length).bind (M2 := 0) (g := fun s _ => Except.ok (s.1, s.2, locs + newL (x0Of v))) (e2 := fun t => t.2.1) (fun _ => True) (fun _ _ _ _ _ => trivial) (fun s _ => LocR.peek (fun _ => (s.1, s.2, locs + newL (x0Of v))) _ (fun _ => rfl) (fun _ _ _ => rfl))).mono (by have := partsOf_le v.toNat; omega))
  refine h2.congr fun bs => ?_
  unfold instrR
  split
  · split
    · show _ = bindE (partsR G fs R V m bs (bs.getD nx 0).toNat (x0Of (bs.getD nx 0)) (nx + 1) (partsOf (bs.getD nx 0).toNat).length) _
      cases partsR G fs R V m bs (bs.getD nx 0).toNat (x0Of (bs.getD nx 0)) (nx + 1) (partsOf (bs.getD nx 0).toNat).length <;> rfl
    · rfl
  · rfl
theorem codeStep_loc (G : Int) (fs : List S46) (R V m : Int) (k : Nat) (s : Nat × Int × List S50) : LocR s.1 769 (fun bs => codeStep G fs R V m bs k s) (fun t => t.1) := by
  refine ((instrR_loc G fs R V m ((k : Int) == m - 1) s.1 s.2.1).bind (M2 := 0) (g := fun t _ => Except.ok (t.2.1, t.2.2, s.2.2 ++ [t.1])) (e2 := fun t => t.1) (fun _ => True) (fun _ _ _ _ _ => trivial) (fun t _ => LocR.peek (fun _ => (t.2.1, t.2.2, s.2.2 ++ [t.1])) _ (fun _ => rfl) (fun _ _ _ => rfl))).congr fun bs => ?_
  unfold codeStep
  cases instrR G fs R V m bs ((k : Int) == m - 1) s.1 s.2.1 <;> rfl
def funcH (G : Int) (hs : List HV) (zs : List Int) (bs : List Int) (q : Nat) (s : Nat × Int × List (List S50)) : Ex (Nat × Int × List (List S50)) :=
  bindE (runE (codeStep G (fsOf hs) (hs.getD q hv0).R (hs.getD q hv0).V (zs.getD q 0) bs) (s.1, s.2.1, []) (zs.getD q 0).toNat) fun t => .ok (t.1, t.2.1, s.2.2 ++ [t.2.2])
theorem funcH_loc (G : Int) (hs : List HV) (zs : List Int) (hz : ∀ z ∈ zs, z ≤ 4096) (q : Nat) (s : Nat × Int × List (List S50)) : LocR s.1 3149824 (fun bs => funcH G hs zs bs q s) (fun t => t.1) := by
  have hq : (zs.getD q 0).toNat ≤ 4096 := by
    rw [List.getD_eq_getElem?_getD]
    rcases Nat.lt_or_ge q zs.length with g | g
    · rw [List.getElem?_eq_getElem g]
      have := hz _ (List.getElem_mem g)
      show (zs[q]).toNat ≤ 4096
      omega
    · rw [List.getElem?_eq_none g]; decide
  exact ((LocR.run (e := fun _ t => t.1) (M := 769) (fun bs => codeStep G (fsOf hs) (hs.getD q hv0).R (hs.getD q hv0).V (zs.getD q 0) bs) (s.1, s.2.1, []) (fun _ _ => True) (zs.getD q 0).toNat (fun _ _ _ _ _ _ _ => trivial) (fun k t _ _ => codeStep_loc G (fsOf hs) _ _ _ k t) _ (Nat.le_refl _)).bind (M2 := 0) (g := fun t _ => Except.ok (t.1, t.2.1, s.2.2 ++ [t.2.2])) (e2 := fun t => t.1) (fun _ => True) (fun _ _ _ _ _ => trivial) (fun t _ => LocR.peek (fun _ => (t.1, t.2.1, s.2.2 ++ [t.2.2])) _ (fun _ => rfl) (fun _ _ _ => rfl))).mono (by omega)
def magicR (bs : List Int) : Ex Unit := if bs.take 6 = magicL.take bs.length then (if 6 ≤ bs.length then .ok () else .error (11, bs.length)) else .error (10, 0)
def globR (bs : List Int) : Ex Int := if 6 + 1 ≤ bs.length then (if globE (bs.getD 6 0) = 0 then .ok (bs.getD 6 0) else .error (globE (bs.getD 6 0), ((6 : Nat) : Int))) else .error (11, bs.length)
def cntR (bs : List Int) : Ex Int := if 7 + 2 ≤ bs.length then (if funcsE (cntOf bs) = 0 then .ok (cntOf bs) else .error (funcsE (cntOf bs), ((7 : Nat) : Int))) else .error (11, bs.length)
def headsR (c : Int) (bs : List Int) : Ex (Int × List HV × List Int) := bindE (runE (headStep bs) 0 c.toNat) fun l => .ok (l, hsOf bs c.toNat, szOf bs c.toNat)
def bodyR (G c : Int) (h : Int × List HV × List Int) (bs : List Int) : Ex (Int × List HV × Nat × Int × List (List S50)) := bindE (runE (funcH G h.2.1 h.2.2 bs) (9 + 5 * c.toNat, h.1, []) c.toNat) fun s => .ok (G, h.2.1, s)
def progR (bs : List Int) : Ex (Int × List HV × Nat × Int × List (List S50)) :=
  bindE (magicR bs) fun _ => bindE (globR bs) fun G => bindE (cntR bs) fun c => bindE (headsR c bs) fun h => bodyR G c h bs
theorem magic_loc : LocR 0 6 magicR (fun _ => 6) where
  ok := fun bs a hb hp h => by
    unfold magicR at h
    split at h
    · split at h
      · omega
      · cases h
    · cases h
  same := fun bs a bs' hb hp h ha => by
    unfold magicR at h ⊢
    split at h
    · rename_i hm
      split at h
      · rename_i hl
        have h1 := ha.1
        rw [ha.take hl, hm, if_pos (by rw [List.take_of_length_le (i := bs.length) (by show 6 ≤ _; exact hl), List.take_of_length_le (i := bs'.length) (by show 6 ≤ _; exact h1)]), if_pos h1]
      · cases h
    · cases h
  cut := fun bs a bs' hb hp h hp' hl ha => by
    unfold magicR at h ⊢
    split at h
    · rename_i hm
      split at h
      · rename_i hl6
        have h1 := ha.take (by omega)
        rw [List.take_of_length_le (Nat.le_refl _)] at h1
        have h2 : bs'.take 6 = magicL.take bs'.length := by
          have h3 : bs.take bs'.length = (bs.take 6).take bs'.length := by rw [List.take_take, Nat.min_eq_left (by omega)]
          exact (List.take_of_length_le (by omega)).trans (h1.trans (by rw [h3, hm, List.take_take, Nat.min_eq_left (by omega)]))
        rw [if_pos h2, if_neg (by omega)]
      · cases h
    · cases h
  err := fun bs er hb hp h => by
    unfold magicR at h
    split at h
    · split at h
      · cases h
      · injection h with h
        exact .inl h.symm
    · injection h with h
      exact .inr (.inl h.symm)
theorem glob_loc : LocR 6 1 globR (fun _ => 7) :=
  (LocR.field (p := 6) (k := 1) (fun bs => bs.getD 6 0) (fun bs => globE (bs.getD 6 0)) (fun _ => 7) (fun _ => rfl) (fun bs bs' h => h.2 6 (by omega)) (fun bs bs' h => by rw [h.2 6 (by omega)]) (.inr (by omega))).congr fun bs => rfl
theorem cnt_ag {bs bs' : List Int} (h : Ag 9 bs bs') : cntOf bs' = cntOf bs := by unfold cntOf; rw [h.2 7 (by omega), h.2 8 (by omega)]
theorem cnt_loc : LocR 7 2 cntR (fun _ => 9) :=
  (LocR.field (p := 7) (k := 2) cntOf (fun bs => funcsE (cntOf bs)) (fun _ => 9) (fun _ => rfl) (fun bs bs' h => cnt_ag h) (fun bs bs' h => by rw [cnt_ag h]) (.inr (by omega))).congr fun bs => rfl
theorem hv_ag {p : Nat} {bs bs' : List Int} (h : Ag (p + 5) bs bs') : hvOf bs' p = hvOf bs p ∧ hvN bs' p = hvN bs p := by
  unfold hvOf hvN
  rw [h.2 p (by omega), h.2 (p + 1) (by omega), h.2 (p + 2) (by omega), h.2 (p + 3) (by omega), h.2 (p + 4) (by omega)]
  exact ⟨rfl, rfl⟩
theorem headStep_loc (q : Nat) (l : Int) : LocR (9 + 5 * q) 5 (fun bs => headStep bs q l) (fun _ => 9 + 5 * (q + 1)) :=
  (LocR.field (p := 9 + 5 * q) (k := 5) (fun bs => l + (hvOf bs (9 + 5 * q)).V) (fun bs => hvE bs (9 + 5 * q) l) (fun _ => 9 + 5 * (q + 1)) (fun _ => by omega) (fun bs bs' h => by rw [(hv_ag h).1])
    (fun bs bs' h => by unfold hvE; rw [(hv_ag h).1, (hv_ag h).2]) (.inr (by omega))).congr fun bs => rfl
theorem hs_ag {n : Nat} {bs bs' : List Int} (h : Ag (9 + 5 * n) bs bs') : hsOf bs' n = hsOf bs n ∧ szOf bs' n = szOf bs n := by
  unfold hsOf szOf
  constructor
  · exact List.map_congr_left fun q hq => by
      rw [List.mem_range] at hq
      exact (hv_ag (h.mono (by omega))).1
  · exact List.map_congr_left fun q hq => by
      rw [List.mem_range] at hq
      exact (hv_ag (h.mono (by omega))).2
theorem heads_loc (c : Int) : LocR 9 (c.toNat * 5) (headsR c) (fun _ => 9 + 5 * c.toNat) :=
  (LocR.run (e := fun q (_ : Int) => 9 + 5 * q) (M := 5) (fun bs q l => headStep bs q l) (0 : Int) (fun _ _ => True) c.toNat (fun _ _ _ _ _ _ _ => trivial) (fun q l _ _ => headStep_loc q l) c.toNat (Nat.le_refl _)).bind (M2 := 0) (g := fun l bs => Except.ok (l, hsOf bs c.toNat, szOf bs c.toNat)) (e2 := fun _ => 9 + 5 * c.toNat) (fun _ => True) (fun _ _ _ _ _ => trivial) (fun l _ =>
    LocR.peek (fun bs => (l, hsOf bs c.toNat, szOf bs c.toNat)) _ (fun _ => rfl) (fun bs bs' h => by rw [(hs_ag h).1, (hs_ag h).2]))
theorem heads_sz {c : Int} {bs : List Int} {h : Int × List HV × List Int} (hb : Bytes bs) (he : headsR c bs = .ok h) : ∀ z ∈ h.2.2, z ≤ 4096 := by
  unfold headsR at he
  cases e : runE (headStep bs) 0 c.toNat with
  | error er => rw [e] at he; cases he
  | ok l =>
    rw [e] at he
    injection he with he
    subst he
    intro z hz
    simp only [szOf, List.mem_map, List.mem_range] at hz
    obtain ⟨q, hq, rfl⟩ := hz
    exact ((heads_run hb _ _ e).2.2 q hq).2
theorem body_loc (G c : Int) (h : Int × List HV × List Int) (hz : ∀ z ∈ h.2.2, z ≤ 4096) : LocR (9 + 5 * c.toNat) (c.toNat * 3149824) (bodyR G c h) (fun r => r.2.2.1) := by
  have h1 := LocR.run (e := fun _ t => t.1) (M := 3149824) (fun bs => funcH G h.2.1 h.2.2 bs) (9 + 5 * c.toNat, h.1, []) (fun _ _ => True) c.toNat (fun _ _ _ _ _ _ _ => trivial) (fun q t _ _ => funcH_loc G h.2.1 h.2.2 hz q t) c.toNat (Nat.le_refl _)
  have h2 := h1.bind (M2 := 0) (g := fun s _ => Except.ok (G, h.2.1, s)) (e2 := fun r => r.2.2.1) (fun _ => True) (fun _ _ _ _ _ => trivial) (fun s _ => LocR.peek (fun _ => (G, h.2.1, s)) _ (fun _ => rfl) (fun _ _ _ => rfl))
  exact (h2.mono (by omega)).congr fun bs => rfl
theorem prog_loc : LocR 0 1000000000000 progR (fun r => r.2.2.1) := by
  refine LocR.mono (M := 6 + (1 + (2 + (327675 + 206423715840)))) ?_ (by omega)
  refine magic_loc.bind (M2 := 1 + (2 + (327675 + 206423715840))) (fun _ => True) (fun _ _ _ _ _ => trivial) (fun _ _ => ?_)
  refine glob_loc.bind (M2 := 2 + (327675 + 206423715840)) (fun _ => True) (fun _ _ _ _ _ => trivial) (fun G _ => ?_)
  refine cnt_loc.bind (M2 := 327675 + 206423715840) (fun c => c ≤ 65535) (fun bs c hb hp h => ?_) (fun c hc => ?_)
  · unfold cntR at h
    split at h
    · split at h
      · rename_i e
        injection h with h
        subst h
        unfold funcsE at e
        by_cases g : 1 ≤ cntOf bs ∧ cntOf bs ≤ 65535
        · exact g.2
        · rw [if_neg g] at e; omega
      · cases h
    · cases h
  · exact ((heads_loc c).mono (M' := 327675) (by omega)).bind (M2 := 206423715840) (g := fun h bs => bodyR G c h bs) (e2 := fun r => r.2.2.1) (fun h => ∀ z ∈ h.2.2, z ≤ 4096) (fun bs h hb _ he => heads_sz hb he) (fun h hz => (body_loc G c h hz).mono (by omega))
theorem getD_hs (bs : List Int) (n q : Nat) (h : q < n) : (hsOf bs n).getD q hv0 = hvOf bs (9 + 5 * q) ∧ (szOf bs n).getD q 0 = hvN bs (9 + 5 * q) := by
  unfold hsOf szOf
  rw [List.getD_eq_getElem?_getD, List.getD_eq_getElem?_getD, List.getElem?_map, List.getElem?_map, List.getElem?_range h]
  exact ⟨rfl, rfl⟩
theorem decR_eq (bs : List Int) : decR bs = bindE (progR bs) fun r => if r.2.2.1 = bs.length then .ok (r.1, withCode r.2.1 r.2.2.2.2) else .error (22, r.2.2.1) := by
  unfold decR progR magicR globR cntR
  split
  · split
    · split
      · split
        · split
          · split
            · show _ = bindE (bindE (headsR (cntOf bs) bs) fun h => bodyR (bs.getD 6 0) (cntOf bs) h bs) _
              unfold headsR bodyR
              cases e : runE (headStep bs) 0 (cntOf bs).toNat with
              | error er => rfl
              | ok l =>
                have hc : runE (funcStep (bs.getD 6 0) (fsOf (hsOf bs (cntOf bs).toNat)) bs) (9 + 5 * (cntOf bs).toNat, l, []) (cntOf bs).toNat = runE (funcH (bs.getD 6 0) (hsOf bs (cntOf bs).toNat) (szOf bs (cntOf bs).toNat) bs) (9 + 5 * (cntOf bs).toNat, l, []) (cntOf bs).toNat := runE_congr _ fun q hq s => by
                  unfold funcStep funcH
                  rw [(getD_hs bs _ q hq).1, (getD_hs bs _ q hq).2]
                  cases runE (codeStep (bs.getD 6 0) (fsOf (hsOf bs (cntOf bs).toNat)) (hvOf bs (9 + 5 * q)).R (hvOf bs (9 + 5 * q)).V (hvN bs (9 + 5 * q)) bs) (s.1, s.2.1, []) (hvN bs (9 + 5 * q)).toNat <;> rfl
                simp only [hc, bindE]
                cases runE (funcH (bs.getD 6 0) (hsOf bs (cntOf bs).toNat) (szOf bs (cntOf bs).toNat) bs) (9 + 5 * (cntOf bs).toNat, l, []) (cntOf bs).toNat <;> rfl
            · rfl
          · rfl
        · rfl
      · rfl
    · rfl
  · rfl
theorem decR_stays {bs : List Int} {er : Int × Int} (hb : Bytes bs) (h : decR bs = .error er) (h10 : er.1 ≠ 10) (h11 : er.1 ≠ 11) (h22 : er.1 ≠ 22) : ∃ q k : Nat, er.2 = q ∧ k ≤ 5 ∧ q ≤ 1000000000000 ∧ q + k ≤ bs.length ∧ ∀ bs', Ag (q + k) bs bs' → decR bs' = .error er := by
  rw [decR_eq] at h
  cases e : progR bs with
  | error er1 =>
    rw [e] at h
    injection h with h
    subst h
    rcases prog_loc.err bs er1 hb (Nat.zero_le _) e with r | r | ⟨q, k, r1, r2, r3, r4, r5, r6⟩
    · exact absurd (by rw [r]) h11
    · exact absurd (by rw [r]) h10
    · exact ⟨q, k, r1, r2, by omega, r5, fun bs' ha => by rw [decR_eq, r6 bs' ha]; rfl⟩
  | ok r =>
    rw [e] at h
    simp only [bindE] at h
    split at h
    · cases h
    · injection h with h
      subst h
      exact absurd rfl h22
end Go.Proofs.YteonppgdmhakoaaDoor.PC
namespace Go.Proofs.YteonppgdmhakoaaDoor.PC
open Go.RowKit Go.Proofs.YteonppgdmhakoaaDoorW.PrintWords Go.Proofs.YteonppgdmhakoaaDoorW.PrintLast Go.Proofs.YteonppgdmhakoaaDoorW.PrintMore
set_option linter.unusedVariables false
set_option linter.unusedSimpArgs false
theorem works_ev : Ev (fun k => fuguelaw01_works.f k) true :=
  Ev.of (fun k => fuguelaw01_works.mono k) (show fuguelaw01_works.f 12 = some true by decide +kernel)
theorem copy_ev (xs : List Int) (hl : xs.length ≤ 140737488355328) : Ev (fun k => fugueref00_CopyBytes.f k xs) xs := by
  have gen : ∀ (d i : Nat), xs.length - i = d → i ≤ xs.length → Ev (fun k => fugueref00_CopyBytes.l0 k xs (xs.take i) (i : Int)) xs := by
    intro d
    induction d with
    | zero =>
      intro i hd hi
      refine Ev.step (f := fun _ => some xs) (fun k => by simp only [fugueref00_CopyBytes.l0]; rw [if_neg (by omega), List.take_of_length_le (by omega)]) (Ev.now _)
    | succ d ih =>
      intro i hd hi
      have hx : i < xs.length := by omega
      have e1 : rd xs (i : Int) = xs[i] := rd_get xs i hx
      refine Ev.step (fun k => by simp only [fugueref00_CopyBytes.l0]; rw [if_pos (by omega), if_pos (by omega), if_pos (by rw [List.length_take]; omega), e1, wrap_in (by omega) (by omega), ← List.take_succ_eq_append_getElem hx]) ?_
      exact ih (i + 1) (by omega) (by omega)
  unfold fugueref00_CopyBytes.f
  simpa using gen xs.length 0 (by omega) (by omega)
theorem all_bytes {xs : List Int} (h : Bytes xs) : (xs.all fun x => decide (0 ≤ x ∧ x ≤ 255)) = true := by
  rw [List.all_eq_true]
  intro x hx
  exact decide_eq_true (h x hx)
theorem dec_f {xs : List Int} (h : Bytes xs) : code_Decode.f xs = some (decOut xs) := by
  unfold code_Decode.f
  rw [if_pos (all_bytes h)]
end Go.Proofs.YteonppgdmhakoaaDoor.PC
namespace Go.Proofs.YteonppgdmhakoaaDoor.PC
open Go.RowKit
theorem gTab : Tryd.prog.globalNamed "fugue/code.bytes" = some 0 := by kernel_rfl
theorem gTabType : (Tryd.prog.globals[0]?).map (·.type) = some 127 := by kernel_rfl
theorem gTab127 : Tryd.prog.underlying 127 = some (.array 15 3) := by kernel_rfl
theorem cells127 : Tryd.prog.cellsOf 127 = 15 := by kernel_rfl
theorem cellsOf3 : Tryd.prog.cellsOf 3 = 1 := by kernel_rfl
theorem tab_laid {W : World} (h : laidMetH Tryd.prog [("fugue/code.bytes", Rows.laid_fugue_code_bytes)] W) : Tab W := by
  have ht : Lib.TabIs Tryd.prog W "fugue/code.bytes" .i64 tabL := Lib.tabIs_of_head (rest := []) gTab gTabType gTab127 Tryd.underlying3 cellsOf3 cells127 h
  exact fun i hi => ht.cell gTab i hi
noncomputable def laidWorld (os : Os) : World :=
  { World.holding Tryd.prog os ⟨#[], #[], []⟩ with heap := (World.holding Tryd.prog os ⟨#[], #[], []⟩).heap.modify 0 fun
      | .cells _ t frozen => .cells #[.int .i64 0, .int .i64 8, .int .i64 0, .int .i64 0, .int .i64 0, .int .i64 0, .int .i64 1, .int .i64 1, .int .i64 1, .int .i64 1, .int .i64 1, .int .i64 2, .int .i64 0, .int .i64 2, .int .i64 2] t frozen
      | o => o }
theorem weights_at {H : Type} {ts : List TypeId} {ds : List (DataW H)} (h : (DataW.weightsEach Tryd.prog ts ds).all (· ≤ reachBytes) = true) {j : Nat} {t : TypeId} {d : DataW H} (ht : ts[j]? = some t) (hd : ds[j]? = some d) : ∀ n ∈ d.weights Tryd.prog t, n ≤ reachBytes := fun n hn => by
  have h1 := DataW.weights_mem_each ht hd n hn
  rw [List.all_eq_true] at h
  simpa using h n h1
end Go.Proofs.YteonppgdmhakoaaDoor.PC
namespace Go.Proofs.YteonppgdmhakoaaDoor.Open
open Go.RowKit Go.Deep Go.Proofs.YteonppgdmhakoaaDoorW.PrintWords
set_option linter.unusedVariables false
set_option linter.unusedSimpArgs false
structure Rd (P : Program) (t : TypeId) {α : Type} (d : Kd α) (ok : α → Prop) : Prop where
  sz : P.cellsOf t = d.sz
  read : ∀ {H : Type} {enc : TypeId × Value → H} {w : World} {fuel : Nat} {cs : List Value} {x : DataW H × List MemPlace}, DataW.trod enc P w 0 (fun _ => true) true fuel t cs = some x → (∀ n ∈ x.1.weights P t, n ≤ reachBytes) → ∃ a, d.K w a cs ∧ ok a
theorem rd_int {P : Program} {t : TypeId} {k : IntKind} (ht : P.underlying t = some (.int k)) (hs : P.cellsOf t = 1) : Rd P t (Kd.int k) (fun a => (Lit.int k a).wf = true) :=
  ⟨hs, fun {H enc w fuel cs x} h _ => by
    obtain ⟨a, h1, rfl, h2⟩ := DataW.trod_int ht h
    exact ⟨a, h1, h2⟩⟩
theorem mem_all {H : Type} {P : Program} {e : TypeId} : ∀ {l : List (DataW H)} {d : DataW H}, d ∈ l → ∀ n ∈ d.weights P e, n ∈ DataW.weightsAll P e l
  | d' :: l, d, hd, n, hn => by
    unfold DataW.weightsAll
    rcases List.mem_cons.1 hd with rfl | hd
    · exact List.mem_append.2 (.inl hn)
    · exact List.mem_append.2 (.inr (mem_all hd n hn))
theorem rd_slice {P : Program} {t e : TypeId} {α : Type} {d : Kd α} {ok : α → Prop} [Inhabited α] (ht : P.underlying t = some (.slice e)) (hs : P.cellsOf t = 1) (he : Rd P e d ok) :
    Rd P t (Kd.slice e d) (fun xs => xs.length * P.bytesOf e ≤ 140737488351232 ∧ ∀ a ∈ xs, ok a) :=
  ⟨hs, fun {H enc w fuel cs x} h hw => by
    rcases open_slice ht h with ⟨rfl, rfl⟩ | ⟨a, len, cap, m, n, D, Pl, rfl, _, hl, hm, hmm, rfl, hel⟩
    · exact ⟨[], ⟨none, 0, rfl, Nat.le_refl _, Kd.C_nil _ _⟩, by simp, by simp⟩
    · have hml : len ≤ m := by rw [hmm]; simp; exact hl
      have hch : ∀ i, i < len → ∃ y : α, (∃ c, c.length = d.sz ∧ d.K w y c ∧ ∀ j u, c[j]? = some u → w.cell? (a.add (i * d.sz + j)) = some u) ∧ ok y := by
        intro i hi
        obtain ⟨cs', h1, h2⟩ := hel i (by omega)
        obtain ⟨_, hcl, hcell⟩ := World.cells?_some h1
        have hD : D i ∈ (List.range len).map D := List.mem_map.2 ⟨i, List.mem_range.2 hi, rfl⟩
        obtain ⟨y, hK, hok⟩ := he.read h2 (fun k hk => hw k (by
          unfold DataW.weights
          rw [ht]
          exact List.mem_cons_of_mem _ (List.mem_append.2 (.inl (mem_all hD k hk)))))
        refine ⟨y, ⟨cs', by rw [hcl, he.sz], hK, fun j u hu => ?_⟩, hok⟩
        have hj : j < cs'.length := (List.getElem?_eq_some_iff.1 hu).1
        have := hcell j (by omega)
        rw [hu, Go.Deep.add_add, he.sz] at this
        exact this
      obtain ⟨f, hf⟩ := choose_lt hch
      have hlen : ((List.range len).map f).length = len := by simp
      refine ⟨(List.range len).map f, ⟨some a, cap, by rw [hlen], by rw [hlen]; exact hl, rfl, by rw [hlen]; unfold maxLen at hm; omega, fun _ => ⟨a, rfl, fun j p hj => ?_⟩⟩, ?_, ?_⟩
      · rw [List.getElem?_map] at hj
        obtain ⟨i, hi, rfl⟩ := Option.map_eq_some_iff.1 hj
        have h1 := List.getElem?_eq_some_iff.1 hi
        simp only [List.getElem_range, List.length_range] at h1
        obtain ⟨h2, rfl⟩ := h1
        exact (hf j h2).1
      · rw [hlen]
        have := hw ((len + (m - len)) * P.bytesOf e) (by
          unfold DataW.weights
          rw [ht]
          simp)
        have h3 : len * P.bytesOf e ≤ (len + (m - len)) * P.bytesOf e := Nat.mul_le_mul_right _ (by omega)
        unfold reachBytes at this
        omega
      · intro y hy
        obtain ⟨i, hi, rfl⟩ := List.mem_map.1 hy
        exact (hf i (List.mem_range.1 hi)).2⟩
structure RdF (P : Program) (fs : List Field) (off : Nat) {α : Type} (d : Kd α) (ok : α → Prop) : Prop where
  read : ∀ {H : Type} {enc : TypeId × Value → H} {w : World} {fuel : Nat} {cs : List Value} {xs : List (DataW H × List MemPlace)}, (fs.mapM fun f => DataW.trod enc P w 0 (fun _ => true) true fuel f.type ((cs.drop f.offset).take (P.cellsOf f.type))) = some xs →
    (∀ n ∈ DataW.weightsEach P (fs.map (·.type)) (xs.map (·.1)), n ≤ reachBytes) → ∃ a, d.K w a ((cs.drop off).take d.sz) ∧ ok a
end Go.Proofs.YteonppgdmhakoaaDoor.Open
namespace Go.Proofs.YteonppgdmhakoaaDoor.PC
open Go.RowKit Go.Proofs.YteonppgdmhakoaaDoorW.PrintWords Go.Proofs.YteonppgdmhakoaaDoor.Open
set_option linter.unusedVariables false
instance : Inhabited S50 := ⟨z50⟩
instance : Inhabited S46 := ⟨z46⟩
def Wb (a : Int) : Prop := (Lit.int .u8 a).wf = true
theorem bytes5_ : Tryd.prog.bytesOf 5 = 1 := by kernel_rfl
theorem rd5 : Rd Tryd.prog 5 (Kd.int .u8) Wb := rd_int Tryd.underlying5 (by kernel_rfl)
def Ok33 (xs : List Int) : Prop := xs.length * Tryd.prog.bytesOf 5 ≤ 140737488351232 ∧ ∀ a ∈ xs, Wb a
theorem rd33 : Rd Tryd.prog 33 (Kd.slice 5 (Kd.int .u8)) Ok33 := rd_slice Tryd.underlying33 (by kernel_rfl) rd5
theorem ok33 {xs : List Int} (h : Ok33 xs) : xs.length ≤ 140737488351232 ∧ Bytes xs := by
  obtain ⟨h1, h2⟩ := h
  rw [bytes5_] at h1
  refine ⟨by omega, fun x hx => ?_⟩
  have h3 : (decide ((0 : Int) ≤ x) && decide (x ≤ 255)) = true := h2 x hx
  rw [Bool.and_eq_true, decide_eq_true_eq, decide_eq_true_eq] at h3
  exact h3
set_option maxRecDepth 100000 in
theorem open33 {r : Reach} {W : World} {b : Nat} {v : Value} {xs : List Int} (ov : Value.okWide Tryd.prog W r b 33 v) (h : (Kd.slice 5 (Kd.int .u8)).K W xs v.cells.toList) : ∃ A c, v = .slice A xs.length c ∧ xs.length ≤ c ∧ Kd.C (Kd.int .u8) W A xs.length xs := by
  obtain ⟨a, l, c, rfl⟩ := Go.WideShapes.okWide_slice Tryd.underlying33 ov
  obtain ⟨A, c', h1, h2, h3⟩ := h
  cases h1
  exact ⟨_, _, rfl, h2, h3⟩
end Go.Proofs.YteonppgdmhakoaaDoor.PC
namespace Go.Proofs.YteonppgdmhakoaaDoor.PC
open Go.RowKit Go.Proofs.YteonppgdmhakoaaDoorW.PrintWords Go.Proofs.YteonppgdmhakoaaDoorW.PrintLast Go.Proofs.YteonppgdmhakoaaDoorW.PrintMore
set_option linter.unusedVariables false
set_option linter.unusedSimpArgs false
theorem stays_l0 (c ys : List Int) (x7 x8 : Int) (r : Int × List S46 × Int × Int) (hc : c.length ≤ 1000000000010) (hl : ys.length ≤ 140737488351232) (hd : code_Decode.f (c ++ ys) = some r) (h1 : r.2.2.1 = x7) (h2 : r.2.2.2 = x8) : ∀ (d i : Nat), ys.length - i = d → i ≤ ys.length → Ev (fun k => fuguelaw01_CodeStays.l0 k ys true x7 x8 (c ++ ys.take i) (i : Int)) true := by
  intro d
  induction d with
  | zero =>
    intro i hd' hi
    refine Ev.step (f := fun _ => some true) (fun k => by
      simp only [fuguelaw01_CodeStays.l0]
      rw [if_neg (by omega), List.take_of_length_le (show ys.length ≤ i by omega), hd]
      simp only [Option.bind_some, if_true]
      rw [if_pos h1, h2, beq_self_eq_true]) (Ev.now _)
  | succ d ih =>
    intro i hd' hi
    have hx : i < ys.length := by omega
    have e1 : rd ys (i : Int) = ys[i] := rd_get ys i hx
    refine Ev.step (fun k => by
      simp only [fuguelaw01_CodeStays.l0]
      rw [if_pos (by omega), if_pos (by omega), if_pos (by rw [List.length_append, List.length_take]; omega), e1, wrap_in (by omega) (by omega), List.append_assoc, ← List.take_succ_eq_append_getElem hx]) ?_
    exact ih (i + 1) (by omega) (by omega)
theorem ag_take (m : Nat) (bs ys : List Int) (hm : m ≤ bs.length) : Ag m bs (bs.take m ++ ys) := by
  refine ⟨by rw [List.length_append, List.length_take]; omega, fun i hi => ?_⟩
  rw [List.getD_eq_getElem?_getD, List.getD_eq_getElem?_getD, List.getElem?_append_left (by rw [List.length_take]; omega), List.getElem?_take, if_pos hi]
theorem stays_j2 (bs ys : List Int) (hb : Bytes bs) (hy : Bytes ys) (hl : ys.length ≤ 140737488351232) (hbl : bs.length ≤ 140737488351232) (er : Int × Int) (m : Nat) (hm : m ≤ bs.length) (hm2 : m ≤ 1000000000005) (hd : decR (bs.take m ++ ys) = .error er) : Ev (fun k => fuguelaw01_CodeStays.j2 k bs ys true er.1 er.2 (m : Int)) true := by
  refine Ev.step (fun k => by
    simp only [fuguelaw01_CodeStays.j2]
    rw [if_pos (by omega), if_pos (by omega), Int.toNat_natCast]) ?_
  refine Ev.bind (copy_ev (bs.take m) (by rw [List.length_take]; omega)) ?_
  have h := stays_l0 (bs.take m) ys er.1 er.2 (decOut (bs.take m ++ ys)) (by rw [List.length_take]; omega) hl (dec_f (fun x hx => by
    rcases List.mem_append.1 hx with g | g
    · exact hb x (List.mem_of_mem_take g)
    · exact hy x g)) (by unfold decOut; rw [hd]) (by unfold decOut; rw [hd]) ys.length 0 (by omega) (by omega)
  simpa using h
theorem stays_ev (bs ys : List Int) (hb : Bytes bs) (hy : Bytes ys) (hbl : bs.length ≤ 140737488351232) (hl : ys.length ≤ 140737488351232) : Ev (fun k => fuguelaw01_CodeStays.f k bs ys) true := by
  unfold fuguelaw01_CodeStays.f
  refine Ev.bind works_ev ?_
  refine Ev.bind (copy_ev bs (by omega)) ?_
  simp only [dec_f hb, Option.bind_some]
  have j0t : ∀ a b, Ev (fun k => fuguelaw01_CodeStays.j0 k bs ys true a b true) true := fun a b => Ev.step (f := fun _ => some true) (fun k => by simp only [fuguelaw01_CodeStays.j0, if_true]) (Ev.now _)
  cases hd : decR bs with
  | ok p =>
    have e : decOut bs = (p.1, p.2, 0, 0) := by unfold decOut; rw [hd]
    simp only [e, if_true]
    exact j0t _ _
  | error er =>
    have e : decOut bs = (0, [], er.1, er.2) := by unfold decOut; rw [hd]
    simp only [e]
    by_cases c0 : er.1 = 0
    · simp only [if_pos c0]; exact j0t _ _
    by_cases c11 : er.1 = 11
    · simp only [if_neg c0, if_pos c11]; exact j0t _ _
    by_cases c10 : er.1 = 10
    · simp only [if_neg c0, if_neg c11, if_pos c10]; exact j0t _ _
    simp only [if_neg c0, if_neg c11, if_neg c10]
    by_cases c22 : er.1 = 22
    · have hb22 : (er.1 == 22) = true := beq_iff_eq.2 c22
      simp only [hb22]; exact j0t _ _
    have hb22 : (er.1 == 22) = false := beq_eq_false_iff_ne.2 c22
    simp only [hb22]
    obtain ⟨q, k, h1, h2, h3, h4, h5⟩ := decR_stays hb hd c10 c11 c22
    have hlen : (bs.length : Int) ≤ 140737488351232 := by omega
    have hw : wrap64 (er.2 + 5) = (q : Int) + 5 := by rw [h1]; exact wrap_in (by omega) (by omega)
    refine Ev.step (f := fun k => fuguelaw01_CodeStays.j1 k bs ys true er.1 er.2 false) (fun k => by
      simp only [fuguelaw01_CodeStays.j0]
      rw [if_neg (by decide), if_neg (by omega), decide_eq_false (by omega)]) ?_
    by_cases cl : (q : Int) + 5 > (bs.length : Int)
    · refine Ev.step (f := fun k => fuguelaw01_CodeStays.j2 k bs ys true er.1 er.2 (bs.length : Int)) (fun k => by
        simp only [fuguelaw01_CodeStays.j1]
        rw [if_neg (by decide), hw, if_pos cl]) ?_
      exact stays_j2 bs ys hb hy hl hbl er bs.length (Nat.le_refl _) (by omega) (h5 _ ((ag_take bs.length bs ys (Nat.le_refl _)).mono h4))
    · refine Ev.step (f := fun k => fuguelaw01_CodeStays.j2 k bs ys true er.1 er.2 ((q + 5 : Nat) : Int)) (fun k => by
        simp only [fuguelaw01_CodeStays.j1]
        rw [if_neg (by decide), hw, if_neg cl]
        rfl) ?_
      exact stays_j2 bs ys hb hy hl hbl er (q + 5) (by omega) (by omega) (h5 _ ((ag_take (q + 5) bs ys (by omega)).mono (by omega)))
theorem stays_any {A0 A1 : Option Addr} {c0 c1 : Nat} {x0 x1 : List Int} (W : World) (l0 : x0.length ≤ c0) (g0 : Kd.C (Kd.int .u8) W A0 x0.length x0) (h0 : Ok33 x0) (l1 : x1.length ≤ c1) (g1 : Kd.C (Kd.int .u8) W A1 x1.length x1) (h1 : Ok33 x1) (hT : Tab W) :
    Calls Tryd.prog 9 #[.slice A0 x0.length c0, .slice A1 x1.length c1] W fun e w' => e = .returned (.bool true) ∧ Below W.heap.size W w' := by
  obtain ⟨k, hk⟩ := (stays_ev x0 x1 (ok33 h0).2 (ok33 h1).2 (ok33 h0).1 (ok33 h1).1).rounds
  exact fuguelaw01_CodeStays.calls k A0 c0 x0 A1 c1 x1 true W g0 l0 g1 l1 hk hT
end Go.Proofs.YteonppgdmhakoaaDoor.PC
namespace Go.Proofs.YteonppgdmhakoaaDoor.codeStays
open Go.Proofs.YteonppgdmhakoaaDoor.PC Go.ChangeShapes Go.WideShapes Go.ChangeAt Go.RowKit Go.Proofs.YteonppgdmhakoaaDoor.Open
set_option linter.unusedVariables false
theorem own : ownKnob Tryd.prog.godebug = none := by kernel_rfl
theorem laidOut : laidOutB Tryd.prog = true := by kernel_rfl
set_option maxRecDepth 100000 in
theorem contract (H : Type) (enc : TypeId × Value → H) (W : World) (base : Nat) (args : Array Value) (ds gs : List (DataW H)) (before : List MemPlace)
    (hval0 : ∀ (j : Nat) t v, Tryd.f9.params[j]? = some t → args[j]? = some v → Value.okWide Tryd.prog W .any base t v)
    (hW : DataW.Whole enc Tryd.prog Tryd.f9.params.toList Rows.codeStaysSpec.vars false W args.toList ds gs before)
    (hsz0 : (DataW.weightsEach Tryd.prog (Tryd.f9.params.toList ++ Rows.codeStaysSpec.plain.varTypes Tryd.prog) (ds ++ gs)).all (· ≤ reachBytes) = true)
    (hL : laidMetH Tryd.prog Rows.codeStaysRow.laid W) :
    Calls Tryd.prog 9 args W fun e W' => ∃ v, e = .returned v ∧ Rows.codeStaysSpec.post enc Tryd.prog Tryd.f9 false true false false W args v W' := by
  have hT : Tab W := tab_laid hL
  have hval := hval0
  have hsz := hsz0
  have hW' := hW
  obtain ⟨p, q, hA0, hV, rfl, hfz, hnd⟩ := hW
  have hA : DataW.TrodAll enc Tryd.prog W 0 (fun _ => true) true Tryd.f9.params.toList args.toList ds p := hA0
  rw [Tryd.params9] at hA hval hsz
  obtain ⟨v0, vs0, d0, ds0, p0, q0, hargs, rfl, rfl, h0, r0⟩ := trodAll_cons hA
  obtain ⟨v1, vs1, d1, ds1, p1, q1, rfl, rfl, rfl, h1, r1⟩ := trodAll_cons r0
  obtain ⟨rfl, rfl, rfl⟩ := trodAll_nil r1
  obtain rfl : args = #[v0, v1] := by cases args; simp_all
  obtain ⟨rfl, rfl⟩ := trodVars_none hV
  have k0 := h0
  have lt0 : ∀ x ∈ p0, x.block < W.heap.size := by obtain ⟨m, hm⟩ := k0; exact DataW.trod_lt m _ _ _ hm
  have ov0 := (hval 0 33 v0 rfl rfl)
  obtain ⟨fu0, hf0⟩ := h0
  obtain ⟨x0, hK0, hok0⟩ := Rd.read (rd33) hf0 (weights_at hsz (j := 0) (t := 33) rfl rfl)
  obtain ⟨A0, c0, rfl, l0, g0⟩ := open33 ov0 hK0
  have k1 := h1
  have lt1 : ∀ x ∈ p1, x.block < W.heap.size := by obtain ⟨m, hm⟩ := k1; exact DataW.trod_lt m _ _ _ hm
  have ov1 := (hval 1 33 v1 rfl rfl)
  obtain ⟨fu1, hf1⟩ := h1
  obtain ⟨x1, hK1, hok1⟩ := Rd.read (rd33) hf1 (weights_at hsz (j := 1) (t := 33) rfl rfl)
  obtain ⟨A1, c1, rfl, l1, g1⟩ := open33 ov1 hK1
  clear hA0 hval0 hsz0 hsz
  refine (stays_any W l0 g0 hok0 l1 g1 hok1 hT).mono fun e W' ⟨he, bel⟩ => ?_
  subst he
  exact ⟨_, rfl, _, _, _, [], _, [], hW', trodAll_mk1 (shut_bool Tryd.underlying4 _), (trodAll_cons_mk (Below.trod laidOut (by kernel_rfl) (of_decide_eq_true (by kernel_rfl)) k0 bel lt0) (trodAll_cons_mk (Below.trod laidOut (by kernel_rfl) (of_decide_eq_true (by kernel_rfl)) k1 bel lt1) trodAll_mk0)), rfl, bel.frame _, fun h => by cases h⟩
theorem laid_met (os : Os) : laidMet Tryd.prog Rows.codeStaysRow.laid ((laidWorld os).forCall (fun _ _ => 0) ⟨#[], #[.slice none 0 0, .slice none 0 0], []⟩).memory :=
  laidMet_of_run' 8 (by kernel_rfl) (by kernel_rfl)
theorem reads (os : Os) {H : Type} (enc : TypeId × Value → H) : ∃ places, DataW.whole enc Tryd.prog ((laidWorld os).forCall (fun _ _ => 0) ⟨#[], #[.slice none 0 0, .slice none 0 0], []⟩).memory Tryd.f9.params.toList Rows.codeStaysSpec.vars false (#[.slice none 0 0, .slice none 0 0] : Array Value).toList 8 = some ([.nil, .nil], [], places) :=
  ⟨[], by kernel_rfl⟩
set_option maxRecDepth 100000 in
theorem lifted (os : Os) (started : os.Started) (H : Type) (enc : TypeId × Value → H) (F : Stop.Interp) :
    ReturnsInHanded {} Tryd.checked os 9 .any ((OpenSpec.ofChange Rows.codeStaysSpec).preRow enc Tryd.prog Tryd.f9 Rows.codeStaysRow.domain false Rows.codeStaysRow.laid) (((OpenSpec.ofChange Rows.codeStaysSpec).at F).post enc Tryd.prog Tryd.f9 false true false false) := by
  obtain ⟨places, hx⟩ := reads os enc
  refine returnsInHanded_of_row (C := Tryd.checked) (s := (OpenSpec.ofChange Rows.codeStaysSpec)) own started (by kernel_rfl) Tryd.func9
    (witness_row_at (enc := enc) (C := Tryd.checked) false (laidWorld os) #[.slice none 0 0, .slice none 0 0] rfl (by kernel_rfl) (by kernel_rfl) (by kernel_rfl)
      (OpenSpec.preRow_of_cond 8 hx (by kernel_rfl) (fun k hk => by cases hk) (by kernel_rfl) (laid_met os))) ?_
  intro W base args ds gs before hval hW _ _ hsz hL _ _
  exact contract H enc W base args ds gs before hval hW hsz hL
theorem said : Rows.CodeStaysSaid :=
  OpenClaim.holds_of_cond 9 Tryd.f9 rfl rfl rfl rfl rfl rfl rfl ⟨rfl, rfl, rfl, rfl, rfl⟩ rfl rfl rfl rfl rfl (by kernel_rfl) Tryd.func9 (by kernel_rfl)
    (of_decide_eq_true (by kernel_rfl)) (by unfold Func.isWrapper; first | (rw [if_pos (by decide +kernel)]; kernel_rfl) | (rw [if_neg (by decide +kernel)]; exact ⟨rfl, rfl⟩))
    (fun os started H enc _ F => by rw [OpenClaim.pre_eq_preRow]; exact lifted os started H enc F)
theorem plain (f : FuncId) (fn : Func) (hf : Tryd.pinned.checked.prog.funcNamed "fugue/fuguelaw01.CodeStays" = some f) (hfn : Tryd.pinned.checked.prog.funcs[f]? = some fn) :
    true = Tryd.pinned.checked.prog.looks [] ∧ ∀ (j : Nat) t, fn.params[j]? = some t → Tryd.pinned.checked.prog.wantsStandIn t = false := by
  obtain rfl : f = 9 := Option.some.inj ((show Tryd.prog.funcNamed "fugue/fuguelaw01.CodeStays" = some 9 by kernel_rfl).symm.trans hf) |>.symm
  obtain rfl : fn = Tryd.f9 := (Option.some.inj (Tryd.func9.symm.trans hfn)).symm
  refine ⟨by kernel_rfl, fun j t ht => ?_⟩
  rw [Tryd.params9] at ht
  have hm := Array.mem_of_getElem? ht
  simp only [List.mem_toArray, List.mem_cons, List.not_mem_nil, or_false] at hm
  rcases hm with rfl | rfl
  · exact (show Tryd.prog.wantsStandIn 33 = false by kernel_rfl)
  · exact (show Tryd.prog.wantsStandIn 33 = false by kernel_rfl)
theorem card : Rows.CodeStaysCardSaid :=
  Claim7.holds_tied_plain_at .later [] _ _ _ _ said (fun _ h => by cases h) (by kernel_rfl) (fun _ h => by cases h) codeStays_row_tie rfl ⟨rfl, rfl⟩ (by kernel_rfl) rfl plain (by kernel_rfl)
#print axioms card
end Go.Proofs.YteonppgdmhakoaaDoor.codeStays
namespace Go.Proofs.YteonppgdmhakoaaDoor
theorem codeStays_holds : Rows.CodeStaysCardSaid := codeStays.card
end Go.Proofs.YteonppgdmhakoaaDoor
