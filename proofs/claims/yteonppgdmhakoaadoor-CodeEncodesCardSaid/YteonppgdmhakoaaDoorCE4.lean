/- What a proof of this seat needs, laid together by a program of the session's. No conditions. -/
import Derived.Test.YteonppgdmhakoaaDoorCE3
import Derived.Test.YteonppgdmhakoaaDoorCE1
import Derived.Test.YteonppgdmhakoaaDoorCE2
import Derived.Test.YteonppgdmhakoaaDoorCards
import Derived.Test.YteonppgdmhakoaaDoorTie
import Derived.Deep.DeepHandedRow
import Derived.Lib.LaidTab
import Derived.Deep.Slices
import Derived.SizedLaws
import Derived.Carry
import Derived.WideShapes
namespace Go.Proofs.YteonppgdmhakoaaDoor.PC
open Go.RowKit Go.Proofs.YteonppgdmhakoaaDoorW.PrintWords Go.Proofs.YteonppgdmhakoaaDoorW.PrintLast Go.Proofs.YteonppgdmhakoaaDoorW.PrintMore
attribute [local go_sem] max2_int min2_int max_two min_two
set_option linter.unusedVariables false
set_option linter.unusedSimpArgs false
def TAB_24.T23 : Bool × List (List Nat × List Nat) := (true, [([], []), ([], []), ([1], [1]), ([2], [2]), ([3], [3]), ([], []), ([], []), ([], []), ([], []), ([7, 8], [7, 8]), ([9], [9]), ([], []), ([], []), ([], []), ([12, 13], [12, 13]), ([14], [14]), ([15], [15]), ([11, 16], [11, 16]), ([5, 6, 10, 17], [5, 6, 10, 17]), ([18], [18]), ([4, 19, 18], [4, 19]), ([0, 0, 1, 2, 3, 4, 5, 6, 7, 8, 9, 10, 11, 12, 13, 14, 15, 16, 17, 18, 19, 20], [0]), ([21, 0, 1, 2, 3, 4, 5, 6, 7, 8, 9, 10, 11, 12, 13, 14, 15, 16, 17, 18, 19, 20], [21]), ([22, 20, 20, 0, 1, 2, 3, 4, 5, 6, 7, 8, 9, 10, 11, 12, 13, 14, 15, 16, 17, 18, 19, 20], [20, 22])])
def TAB_24.B23 : List Nat := [0, 0, 2, 6, 14, 0, 0, 0, 0, 384, 896, 0, 0, 0, 12288, 28672, 61440, 129024, 262112, 524256, 1048574, 2097151, 4194303, 8388607]
theorem TAB_24.tab23 : rtab .any (opsOf Tryd.f24 23) = TAB_24.T23 := by kernel_rfl
theorem TAB_24.bits23 : waitsOk TAB_24.T23.2 TAB_24.B23 = true := by kernel_rfl
theorem OpsAt.keep2 {w w' : World} {g : Nat} {ds : Array Value} {A : Option Addr} {n c B : Nat} (h : OpsAt w B) (hk : KeepBut w w' g none) (hB : B ≠ g) (hg : w.heap[g]? = some (.cells ds 80 (0, 0))) (h1 : w.cell? ⟨g, 1, none⟩ = some (.slice A n c)) : OpsAt w' B := fun op o1 o2 => by
 obtain ⟨b, hc, hr⟩ := h op o1 o2
 have hb : b ≠ g := by
  intro e
  subst e
  obtain ⟨pk, hpk⟩ := parts_first op o1 o2
  obtain ⟨c0, c1, c2, c3, hp, _, z1, _⟩ := hr 0 pk hpk
  obtain ⟨k1, a1, _, _, _, _, e1, _⟩ := fns_is hp
  rw [show (⟨b, 1, none⟩ : Addr) = ⟨b, 0 * 4 + 1, none⟩ from rfl, z1, e1] at h1
  cases h1
 refine ⟨b, KeepBut.cell hk hc hB, fun j k hj => ?_⟩
 obtain ⟨c0, c1, c2, c3, hp, z0, z1, z2, z3⟩ := hr j k hj
 exact ⟨c0, c1, c2, c3, hp.keep hk hg, KeepBut.cell hk z0 hb, KeepBut.cell hk z1 hb, KeepBut.cell hk z2 hb, KeepBut.cell hk z3 hb⟩
def DecPost (w : World) (bs : List Int) (e : Ending) (w' : World) : Prop := ∃ v, e = .returned (.tuple #[.agg #[.int .i64 (decOut bs).1, v], .int .i64 (decOut bs).2.2.1, .int .i64 (decOut bs).2.2.2]) ∧ k46.R 46 w' w.heap.size (fun k => w.heap.size ≤ k) v (decOut bs).2.1 ∧ Below w.heap.size w w'
set_option maxRecDepth 100000 in
set_option maxHeartbeats 16000000 in
theorem dec_any (A : Option Addr) (c : Nat) (bs : List Int) (w : World) (hB : kB.C w A bs.length bs) (hcb : bs.length ≤ c) (hby : ∀ x ∈ bs, 0 ≤ x ∧ x ≤ 255) (hT : Tab w) : Calls Tryd.prog 24 #[.slice A bs.length c] w fun e w' => DecPost w bs e w' := by
 have hmf : ∀ (fn : Fn) (first cap : Array Value) (w : World), (Instr.makeFunc fn first cap).run Tryd.prog w = .ok (.func fn first cap) w := fun _ _ _ _ => rfl
 have HB := Az.mk (Below.refl w.heap.size w)
 have HBs := Az.mk hB
 have HCb := Az.mk hcb
 have HBy := Az.mk hby
 have HT := Az.mk hT
 have hm : bs.length ≤ 9223372036854775807 := Kd.C_max hB
 obtain ⟨n, hn⟩ : ∃ n, n = bs.length := ⟨_, rfl⟩
 have Hn := Az.mk hn
 rw [← hn] at hm ⊢
 clear hB hcb hby hT hn
 go_enter_defers Tryd.func24, Tryd.ntmps24
 go_wp2_with (first | ((with_reducible refine gate_dst (N := 2) rfl ?_); refine box_event ?hg (N := 2) ?hd (cs := #[.int .i64 0, .slice none 0 0]) (t := 24) ?hr ?_; (case hd => rfl); (case hg => rfl); (case hr => first | (go_simp; done) | (go_simp; rfl)); intro g2 hg w2 hbox hb; have G2 : Az (w.heap.size ≤ g2) := ⟨by have := HB.out.size; omega⟩; replace HB := Az.mk (HB.out.trans (hb.mono HB.out.size)); have BK2 := Az.mk hbox; clear hg hbox hb) | ((with_reducible refine gate_dst (N := 3) rfl ?_); refine box_event ?hg (N := 3) ?hd (cs := #[.int .i64 0]) (t := 27) ?hr ?_; (case hd => rfl); (case hg => rfl); (case hr => first | (go_simp; done) | (go_simp; rfl)); intro g3 hg w3 hbox hb; have G3 : Az (w.heap.size ≤ g3) := ⟨by have := HB.out.size; omega⟩; replace HB := Az.mk (HB.out.trans (hb.mono HB.out.size)); replace BK2 := Az.mk (kZ BK2.out hb); have BK3 := Az.mk hbox; clear hg hbox hb) | ((with_reducible refine gate_dst (N := 4) rfl ?_); refine box_event ?hg (N := 4) ?hd (cs := #[.int .i64 0]) (t := 3) ?hr ?_; (case hd => rfl); (case hg => rfl); (case hr => first | (go_simp; done) | (go_simp; rfl)); intro g4 hg w4 hbox hb; have G4 : Az (w.heap.size ≤ g4) := ⟨by have := HB.out.size; omega⟩; replace HB := Az.mk (HB.out.trans (hb.mono HB.out.size)); replace BK2 := Az.mk (kZ BK2.out hb); replace BK3 := Az.mk (kZ BK3.out hb); have BK4 := Az.mk hbox; clear hg hbox hb) | ((with_reducible refine gate_dst (N := 15) rfl ?_); refine box_event ?hg (N := 15) ?hd (cs := #[.int .i64 0, .slice none 0 0, .slice none 0 0, .int .i64 0, .int .i64 0, .slice A n c, .int .i64 0]) (t := 80) ?hr ?_; (case hd => rfl); (case hg => rfl); (case hr => first | (go_simp; done) | (go_simp; rfl)); intro g15 hg w15 hbox hb; have G15 : Az (w.heap.size ≤ g15) := ⟨by have := HB.out.size; omega⟩; replace HB := Az.mk (HB.out.trans (hb.mono HB.out.size)); replace BK2 := Az.mk (kZ BK2.out hb); replace BK3 := Az.mk (kZ BK3.out hb); replace BK4 := Az.mk (kZ BK4.out hb); have BK15 := Az.mk hbox; clear hg hbox hb))
 have N2 : Az (g2 ≠ g15) := ⟨blk_ne_ty BK2.out BK15.out (by decide)⟩
 have N3 : Az (g3 ≠ g15) := ⟨blk_ne_ty BK3.out BK15.out (by decide)⟩
 have N4 : Az (g4 ≠ g15) := ⟨blk_ne_ty BK4.out BK15.out (by decide)⟩
 have NB : Az (g15 < w15.heap.size) := ⟨blk_lt BK15.out⟩
 refine (ops_any w15).mono ?_
 rintro e wo ⟨B, rfl, hO, hGB, hb⟩
 have HBo := Az.mk (HB.out.trans (hb.mono HB.out.size))
 have B2 := Az.mk (kZ BK2.out hb)
 have B3 := Az.mk (kZ BK3.out hb)
 have B4 := Az.mk (kZ BK4.out hb)
 have B15 := Az.mk (kZ BK15.out hb)
 have HO := Az.mk hO
 have HBg : Az (B ≠ g15) := ⟨by have := NB.out; omega⟩
 obtain ⟨g, rfl⟩ : ∃ g, g = g15 := ⟨_, rfl⟩
 have hc2 : wo.cell? ⟨g, 2, none⟩ = some (.slice none 0 0) := (bZ B15.out 2).trans rfl
 have hf2 := fZ B15.out 2
 obtain ⟨k, hk⟩ : ∃ k : Nat, k = min n 6 := ⟨_, rfl⟩
 have hmin : (if (6 : Int) < (n : Int) then (6 : Int) else (n : Int)) = (k : Int) := by split <;> omega
 have HKm := Az.mk hk
 clear hk
 clear hO hGB hb HB BK2 BK3 BK4 BK15 NB
 go_wp2_with fail
 clear hc2 hf2
 have HAp : Az (AskW (wo.setCell ⟨g, 2, none⟩ (.slice (some ⟨B, 0, none⟩) 18 18)) g 80 (rdR A bs.length c ((0 : Nat) : Int)) 0 none 0 0 B 0 0) := ⟨by rw [← Hn.out]; exact (blk_set B15.out 2 _).trans (by simp)⟩
 have HZp : Az (Below w.heap.size w (wo.setCell ⟨g, 2, none⟩ (.slice (some ⟨B, 0, none⟩) 18 18))) := ⟨sZ HBo.out G15.out⟩
 have HK1 : KeepBut wo (wo.setCell ⟨g, 2, none⟩ (.slice (some ⟨B, 0, none⟩) 18 18)) g none := (KeepBut.refl wo g none).set_ 2 _
 have HOp := Az.mk (HO.out.keep2 HK1 HBg.out B15.out ((bZ B15.out 1).trans rfl))
 have P2 := Az.mk (HK1.blk B2.out N2.out (by simp))
 have P3 := Az.mk (HK1.blk B3.out N3.out (by simp))
 have P4 := Az.mk (HK1.blk B4.out N4.out (by simp))
 obtain ⟨wp, hwp⟩ : ∃ wp, wp = wo.setCell ⟨g, 2, none⟩ (.slice (some ⟨B, 0, none⟩) 18 18) := ⟨_, rfl⟩
 rw [← hwp] at HAp HZp HOp P2 P3 P4 ⊢
 have HGp : Az (g < wp.heap.size) := ⟨blk_lt HAp.out⟩
 clear hwp HK1 HO HBo B2 B3 B4 B15 hmin
 have hkn : k ≤ n ∧ k ≤ 6 := by have := HKm.out; omega
 have hkc : k ≤ c := by have := HCb.out; have := Hn.out; omega
 have hkc' : (k : Int) ≤ (c : Int) := by omega
 have hk6 : k ≤ 6 := hkn.2
 have hcv2 : (convert 33 9 (.slice A k c)).run Tryd.prog wp.drew = .ok (.string (strOfNums (bs.take k))) wp.drew := conv_bytes (w := wp.drew) (Hn.out ▸ Kd.C_below HBs.out HZp.out.drew) k c hkn.1
 have hsz : ({ data := #[102, 117, 103, 117, 101, 1] } : ByteArray).size = 6 := rfl
 have hk6i : (k : Int) ≤ 6 := by omega
 refine wp_tail 10 (by kernel_rfl) (by kernel_rfl) ?_
 simp only [List.take_succ_cons, List.take_zero, List.drop_succ_cons, List.drop_zero]
 repeat still_step
 refine wpStill_nil ?_
 go_wp2_with fail
 rw [magic_eq bs HBy.out k (by rw [← Hn.out]; exact HKm.out)]
 clear hcv2 hsz hk6i hkn hkc hkc' hk6
 have HA5 : Az (AskW wp.drew g 80 (rdR A bs.length c ((0 : Nat) : Int)) 0 none 0 0 B 0 0) := ⟨HAp.out⟩
 have HZ5 : Az (Below w.heap.size w wp.drew) := ⟨HZp.out.drew⟩
 have HK5 : Az (KeepBut wp wp.drew g none) := ⟨KeepBut.of_below (below_drew (Below.refl _ _)) g none⟩
 obtain ⟨w5, hw5⟩ : ∃ w5, w5 = wp.drew := ⟨_, rfl⟩
 rw [← hw5] at HA5 HZ5 HK5 ⊢
 clear hw5
 by_cases hmg : bs.take 6 = magicL.take bs.length
 rotate_left
 ·have h4 : w5.cell? ⟨g, 4, none⟩ = some (.int .i64 0) := HA5.out.c4
  rw [decide_eq_false hmg]
  refine (must_false g 10 0 w5 h4).mono ?_
  rintro e w' ⟨rfl, rfl⟩
  clear h4
  have HE : Az (decR bs = .error (10, 0)) := ⟨by unfold decR; rw [if_neg hmg]⟩
  have Q2 := Az.mk (HK5.out.blk P2.out N2.out (by simp))
  have Q3 := Az.mk (HK5.out.blk P3.out N3.out (by simp))
  have Q4 := Az.mk (HK5.out.blk P4.out N4.out (by simp))
  have QZ := Az.mk (HZ5.out)
  go_wp2_with fail
  refine leaves_cons (f := 41) (args := #[.pointer (some ⟨g2, 0, none⟩), .pointer (some ⟨g3, 0, none⟩), .pointer (some ⟨g4, 0, none⟩)]) (by simp) (by simp [go_sem]) ?_
  refine (catchD_stop g2 g3 g4 0 0 (10) (0) (.slice none 0 0) w5 Q2.out Q3.out ⟨0, Q4.out⟩).mono ?_
  rintro e u' w'' ⟨rfl, rfl, hst⟩
  have r0 : w''.cell? ⟨g2, 0, none⟩ = some (.int .i64 0) := (bZ hst.1 0).trans rfl
  have r1 : w''.cell? ⟨g2, 1, none⟩ = some (.slice none 0 0) := (bZ hst.1 1).trans rfl
  have r2 : w''.cell? ⟨g3, 0, none⟩ = some (.int .i64 (10)) := (bZ hst.2.1 0).trans rfl
  have r3 : w''.cell? ⟨g4, 0, none⟩ = some (.int .i64 (0)) := (bZ hst.2.2.1 0).trans rfl
  have HPo : Az (DecPost w bs (.returned (.tuple #[.agg #[.int .i64 0, .slice none 0 0], .int .i64 (10), .int .i64 (0)])) w'') := ⟨by unfold DecPost decOut; rw [HE.out]; exact ⟨.slice none 0 0, rfl, Kd.R_nil _ _ _ _ _, hst.2.2.2 w QZ.out G2.out G3.out G4.out⟩⟩
  clear hst Q2 Q3 Q4 QZ HE
  simp [Leaves, settle, results, Tryd.results24, go_sem, r0, r1, r2, r3]
  exact HPo.out
 have HMg := Az.mk hmg
 rw [decide_eq_true hmg]
 clear hmg
 refine (must_true _ _ _).mono ?_
 rintro e w' ⟨rfl, rfl⟩
 have HNm := Az.mk (number_rd g 6 (by omega) (0) none 0 0 B (0) (0) A c bs 0 w w5 HZ5.out G15.out HA5.out HBs.out (by have := HMg.out; omega) HBy.out)
 go_wp2_with fail
 refine HNm.out.mono ?_
 rintro e w' ⟨rfl, hA, hZ, hK⟩
 have HZ6 := Az.mk hZ
 have HK6 : Az (KeepBut wp w' g none) := ⟨KeepBut.trans HK5.out hK (.inl rfl)⟩
 clear hZ hK HNm HA5 HZ5 HK5
 obtain ⟨w6, rfl⟩ : ∃ w6, w6 = w' := ⟨_, rfl⟩
 by_cases hle : 0 + 6 ≤ bs.length
 rotate_left
 ·rw [if_neg hle]
  have HE : Az (decR bs = .error (11, bs.length)) := ⟨by unfold decR; rw [if_pos HMg.out, if_neg (by omega)]⟩
  have Q2 := Az.mk (HK6.out.blk P2.out N2.out (by simp))
  have Q3 := Az.mk (HK6.out.blk P3.out N3.out (by simp))
  have Q4 := Az.mk (HK6.out.blk P4.out N4.out (by simp))
  have QZ := Az.mk (HZ6.out)
  go_wp2_with fail
  refine leaves_cons (f := 41) (args := #[.pointer (some ⟨g2, 0, none⟩), .pointer (some ⟨g3, 0, none⟩), .pointer (some ⟨g4, 0, none⟩)]) (by simp) (by simp [go_sem]) ?_
  refine (catchD_stop g2 g3 g4 0 0 (11) (bs.length) (.slice none 0 0) w6 Q2.out Q3.out ⟨0, Q4.out⟩).mono ?_
  rintro e u' w'' ⟨rfl, rfl, hst⟩
  have r0 : w''.cell? ⟨g2, 0, none⟩ = some (.int .i64 0) := (bZ hst.1 0).trans rfl
  have r1 : w''.cell? ⟨g2, 1, none⟩ = some (.slice none 0 0) := (bZ hst.1 1).trans rfl
  have r2 : w''.cell? ⟨g3, 0, none⟩ = some (.int .i64 (11)) := (bZ hst.2.1 0).trans rfl
  have r3 : w''.cell? ⟨g4, 0, none⟩ = some (.int .i64 (bs.length)) := (bZ hst.2.2.1 0).trans rfl
  have HPo : Az (DecPost w bs (.returned (.tuple #[.agg #[.int .i64 0, .slice none 0 0], .int .i64 (11), .int .i64 (bs.length)])) w'') := ⟨by unfold DecPost decOut; rw [HE.out]; exact ⟨.slice none 0 0, rfl, Kd.R_nil _ _ _ _ _, hst.2.2.2 w QZ.out G2.out G3.out G4.out⟩⟩
  clear hst Q2 Q3 Q4 QZ HE
  simp [Leaves, settle, results, Tryd.results24, go_sem, r0, r1, r2, r3]
  exact HPo.out
 have HA6 := Az.mk (hA hle)
 have L6 := Az.mk hle
 rw [if_pos hle]
 clear hA hle
 have HNm := Az.mk (number_rd g 1 (by omega) (0) none 0 0 B (0) (0) A c bs 6 w w6 HZ6.out G15.out HA6.out HBs.out (by have := L6.out; omega) HBy.out)
 go_wp2_with fail
 refine HNm.out.mono ?_
 rintro e w' ⟨rfl, hA, hZ, hK⟩
 have HZ7 := Az.mk hZ
 have HK7 : Az (KeepBut wp w' g none) := ⟨KeepBut.trans HK6.out hK (.inl rfl)⟩
 clear hZ hK HNm HA6 HZ6 HK6
 obtain ⟨w7, rfl⟩ : ∃ w7, w7 = w' := ⟨_, rfl⟩
 by_cases hle : 6 + 1 ≤ bs.length
 rotate_left
 ·rw [if_neg hle]
  have HE : Az (decR bs = .error (11, bs.length)) := ⟨by unfold decR; rw [if_pos HMg.out, if_pos (show 6 ≤ bs.length by have := L6.out; omega), if_neg (by omega)]⟩
  have Q2 := Az.mk (HK7.out.blk P2.out N2.out (by simp))
  have Q3 := Az.mk (HK7.out.blk P3.out N3.out (by simp))
  have Q4 := Az.mk (HK7.out.blk P4.out N4.out (by simp))
  have QZ := Az.mk (HZ7.out)
  go_wp2_with fail
  refine leaves_cons (f := 41) (args := #[.pointer (some ⟨g2, 0, none⟩), .pointer (some ⟨g3, 0, none⟩), .pointer (some ⟨g4, 0, none⟩)]) (by simp) (by simp [go_sem]) ?_
  refine (catchD_stop g2 g3 g4 0 0 (11) (bs.length) (.slice none 0 0) w7 Q2.out Q3.out ⟨0, Q4.out⟩).mono ?_
  rintro e u' w'' ⟨rfl, rfl, hst⟩
  have r0 : w''.cell? ⟨g2, 0, none⟩ = some (.int .i64 0) := (bZ hst.1 0).trans rfl
  have r1 : w''.cell? ⟨g2, 1, none⟩ = some (.slice none 0 0) := (bZ hst.1 1).trans rfl
  have r2 : w''.cell? ⟨g3, 0, none⟩ = some (.int .i64 (11)) := (bZ hst.2.1 0).trans rfl
  have r3 : w''.cell? ⟨g4, 0, none⟩ = some (.int .i64 (bs.length)) := (bZ hst.2.2.1 0).trans rfl
  have HPo : Az (DecPost w bs (.returned (.tuple #[.agg #[.int .i64 0, .slice none 0 0], .int .i64 (11), .int .i64 (bs.length)])) w'') := ⟨by unfold DecPost decOut; rw [HE.out]; exact ⟨.slice none 0 0, rfl, Kd.R_nil _ _ _ _ _, hst.2.2.2 w QZ.out G2.out G3.out G4.out⟩⟩
  clear hst Q2 Q3 Q4 QZ HE
  simp [Leaves, settle, results, Tryd.results24, go_sem, r0, r1, r2, r3]
  exact HPo.out
 have HA7 := Az.mk (hA hle)
 have L7 := Az.mk hle
 rw [if_pos hle]
 clear hA hle
 rw [num_one bs 6 HBy.out]
 obtain ⟨G, hG⟩ : ∃ G, G = bs.getD 6 0 := ⟨_, rfl⟩
 have HGv := Az.mk hG
 rw [← hG]
 clear hG
 have hs0 : w7.cell? ⟨g, 0, none⟩ = some (.int .i64 0) := HA7.out.c0
 have hf0 := fZ HA7.out 0
 go_wp2_with fail
 clear hs0 hf0
 have HA8 := Az.mk (AskW.set0 (G' := G) HA7.out)
 have HZ8 : Az (Below w.heap.size w (w7.setCell ⟨g, 0, none⟩ (.int .i64 G))) := ⟨sZ HZ7.out G15.out⟩
 have HK8 : Az (KeepBut wp (w7.setCell ⟨g, 0, none⟩ (.int .i64 G)) g none) := ⟨HK7.out.set_ 0 _⟩
 obtain ⟨w8, hw8⟩ : ∃ w8, w8 = w7.setCell ⟨g, 0, none⟩ (.int .i64 G) := ⟨_, rfl⟩
 rw [← hw8] at HA8 HZ8 HK8 ⊢
 clear hw8 HA7 HZ7 HK7
 have hs0 : w8.cell? ⟨g, 0, none⟩ = some (.int .i64 G) := HA8.out.c0
 have HC := Az.mk (globals_any g G 6 w8.drew HA8.out.c4)
 refine wp_tail 9 (by kernel_rfl) (by kernel_rfl) ?_
 simp only [List.take_succ_cons, List.take_zero, List.drop_succ_cons, List.drop_zero]
 repeat still_step
 refine wpStill_nil ?_
 go_wp2_with fail
 refine HC.out.mono ?_
 rintro e w' ⟨he, hb⟩
 have HA9 : Az (AskW w' g 80 (rdR A bs.length c ((6 + 1 : Nat) : Int)) G none 0 0 B 0 6) := ⟨AskW.below (w := w8.drew) HA8.out hb⟩
 have HZ9 : Az (Below w.heap.size w w') := ⟨HZ8.out.drew.trans (hb.mono HZ8.out.size)⟩
 have HK9 : Az (KeepBut wp w' g none) := ⟨KeepBut.trans HK8.out (KeepBut.of_below (show Below w8.heap.size w8 w' from (below_drew (Below.refl _ _)).trans hb) g none) (.inl rfl)⟩
 clear hb HC HA8 HZ8 HK8 hs0
 obtain ⟨w9, rfl⟩ : ∃ w9, w9 = w' := ⟨_, rfl⟩
 by_cases h1 : globE G = 0
 rotate_left
 ·rw [if_neg h1] at he
  subst he
  have HE : Az (decR bs = .error (globE G, 6)) := ⟨by unfold decR; rw [if_pos HMg.out, if_pos (show 6 ≤ bs.length by have := L6.out; omega), if_pos (show 7 ≤ bs.length by have := L7.out; omega), ← HGv.out, if_neg h1]⟩
  have Q2 := Az.mk (HK9.out.blk P2.out N2.out (by simp))
  have Q3 := Az.mk (HK9.out.blk P3.out N3.out (by simp))
  have Q4 := Az.mk (HK9.out.blk P4.out N4.out (by simp))
  have QZ := Az.mk (HZ9.out)
  go_wp2_with fail
  refine leaves_cons (f := 41) (args := #[.pointer (some ⟨g2, 0, none⟩), .pointer (some ⟨g3, 0, none⟩), .pointer (some ⟨g4, 0, none⟩)]) (by simp) (by simp [go_sem]) ?_
  refine (catchD_stop g2 g3 g4 0 0 (globE G) (6) (.slice none 0 0) w9 Q2.out Q3.out ⟨0, Q4.out⟩).mono ?_
  rintro e u' w'' ⟨rfl, rfl, hst⟩
  have r0 : w''.cell? ⟨g2, 0, none⟩ = some (.int .i64 0) := (bZ hst.1 0).trans rfl
  have r1 : w''.cell? ⟨g2, 1, none⟩ = some (.slice none 0 0) := (bZ hst.1 1).trans rfl
  have r2 : w''.cell? ⟨g3, 0, none⟩ = some (.int .i64 (globE G)) := (bZ hst.2.1 0).trans rfl
  have r3 : w''.cell? ⟨g4, 0, none⟩ = some (.int .i64 (6)) := (bZ hst.2.2.1 0).trans rfl
  have HPo : Az (DecPost w bs (.returned (.tuple #[.agg #[.int .i64 0, .slice none 0 0], .int .i64 (globE G), .int .i64 (6)])) w'') := ⟨by unfold DecPost decOut; rw [HE.out]; exact ⟨.slice none 0 0, rfl, Kd.R_nil _ _ _ _ _, hst.2.2.2 w QZ.out G2.out G3.out G4.out⟩⟩
  clear hst Q2 Q3 Q4 QZ HE
  simp [Leaves, settle, results, Tryd.results24, go_sem, r0, r1, r2, r3]
  exact HPo.out
 rw [if_pos h1] at he
 subst he
 have H1 := Az.mk h1
 clear h1
 have HNm := Az.mk (number_rd g 2 (by omega) (G) none 0 0 B (0) (6) A c bs 7 w w9 HZ9.out G15.out HA9.out HBs.out (by have := L7.out; omega) HBy.out)
 go_wp2_with fail
 refine HNm.out.mono ?_
 rintro e w' ⟨rfl, hA, hZ, hK⟩
 have HZa := Az.mk hZ
 have HKa : Az (KeepBut wp w' g none) := ⟨KeepBut.trans HK9.out hK (.inl rfl)⟩
 clear hZ hK HNm HA9 HZ9 HK9
 obtain ⟨wa, rfl⟩ : ∃ wa, wa = w' := ⟨_, rfl⟩
 by_cases hle : 7 + 2 ≤ bs.length
 rotate_left
 ·rw [if_neg hle]
  have HE : Az (decR bs = .error (11, bs.length)) := ⟨by unfold decR; rw [if_pos HMg.out, if_pos (show 6 ≤ bs.length by have := L6.out; omega), if_pos (show 7 ≤ bs.length by have := L7.out; omega), ← HGv.out, if_pos H1.out, if_neg (by omega)]⟩
  have Q2 := Az.mk (HKa.out.blk P2.out N2.out (by simp))
  have Q3 := Az.mk (HKa.out.blk P3.out N3.out (by simp))
  have Q4 := Az.mk (HKa.out.blk P4.out N4.out (by simp))
  have QZ := Az.mk (HZa.out)
  go_wp2_with fail
  refine leaves_cons (f := 41) (args := #[.pointer (some ⟨g2, 0, none⟩), .pointer (some ⟨g3, 0, none⟩), .pointer (some ⟨g4, 0, none⟩)]) (by simp) (by simp [go_sem]) ?_
  refine (catchD_stop g2 g3 g4 0 0 (11) (bs.length) (.slice none 0 0) wa Q2.out Q3.out ⟨0, Q4.out⟩).mono ?_
  rintro e u' w'' ⟨rfl, rfl, hst⟩
  have r0 : w''.cell? ⟨g2, 0, none⟩ = some (.int .i64 0) := (bZ hst.1 0).trans rfl
  have r1 : w''.cell? ⟨g2, 1, none⟩ = some (.slice none 0 0) := (bZ hst.1 1).trans rfl
  have r2 : w''.cell? ⟨g3, 0, none⟩ = some (.int .i64 (11)) := (bZ hst.2.1 0).trans rfl
  have r3 : w''.cell? ⟨g4, 0, none⟩ = some (.int .i64 (bs.length)) := (bZ hst.2.2.1 0).trans rfl
  have HPo : Az (DecPost w bs (.returned (.tuple #[.agg #[.int .i64 0, .slice none 0 0], .int .i64 (11), .int .i64 (bs.length)])) w'') := ⟨by unfold DecPost decOut; rw [HE.out]; exact ⟨.slice none 0 0, rfl, Kd.R_nil _ _ _ _ _, hst.2.2.2 w QZ.out G2.out G3.out G4.out⟩⟩
  clear hst Q2 Q3 Q4 QZ HE
  simp [Leaves, settle, results, Tryd.results24, go_sem, r0, r1, r2, r3]
  exact HPo.out
 have HAa := Az.mk (hA hle)
 have L9 := Az.mk hle
 rw [if_pos hle]
 clear hA hle
 rw [num_two bs 7 HBy.out]
 obtain ⟨cnt, hcnt⟩ : ∃ cnt, cnt = bs.getD 7 0 + bs.getD (7 + 1) 0 * 256 := ⟨_, rfl⟩
 have HCn : Az (cntOf bs = cnt) := ⟨hcnt.symm⟩
 have hc0 := byte_at HBy.out 7
 have hc1 := byte_at HBy.out (7 + 1)
 have HCr : Az (0 ≤ cnt ∧ cnt ≤ 65535) := ⟨by omega⟩
 rw [← hcnt]
 clear hcnt hc0 hc1
 have HC := Az.mk (funcs_any g cnt 7 wa HAa.out.c4)
 go_wp2_with fail
 refine HC.out.mono ?_
 rintro e w' ⟨he, hb⟩
 have HAb := Az.mk (HAa.out.below hb)
 have HZb := Az.mk (HZa.out.trans (hb.mono HZa.out.size))
 have HKb : Az (KeepBut wp w' g none) := ⟨KeepBut.trans HKa.out (KeepBut.of_below hb g none) (.inl rfl)⟩
 clear hb HC HAa HZa HKa
 obtain ⟨wb, rfl⟩ : ∃ wb, wb = w' := ⟨_, rfl⟩
 by_cases h1 : funcsE cnt = 0
 rotate_left
 ·rw [if_neg h1] at he
  subst he
  have HE : Az (decR bs = .error (funcsE cnt, 7)) := ⟨by unfold decR; rw [if_pos HMg.out, if_pos (show 6 ≤ bs.length by have := L6.out; omega), if_pos (show 7 ≤ bs.length by have := L7.out; omega), ← HGv.out, if_pos H1.out, if_pos (show 9 ≤ bs.length by have := L9.out; omega), HCn.out, if_neg h1]⟩
  have Q2 := Az.mk (HKb.out.blk P2.out N2.out (by simp))
  have Q3 := Az.mk (HKb.out.blk P3.out N3.out (by simp))
  have Q4 := Az.mk (HKb.out.blk P4.out N4.out (by simp))
  have QZ := Az.mk (HZb.out)
  go_wp2_with fail
  refine leaves_cons (f := 41) (args := #[.pointer (some ⟨g2, 0, none⟩), .pointer (some ⟨g3, 0, none⟩), .pointer (some ⟨g4, 0, none⟩)]) (by simp) (by simp [go_sem]) ?_
  refine (catchD_stop g2 g3 g4 0 0 (funcsE cnt) (7) (.slice none 0 0) wb Q2.out Q3.out ⟨0, Q4.out⟩).mono ?_
  rintro e u' w'' ⟨rfl, rfl, hst⟩
  have r0 : w''.cell? ⟨g2, 0, none⟩ = some (.int .i64 0) := (bZ hst.1 0).trans rfl
  have r1 : w''.cell? ⟨g2, 1, none⟩ = some (.slice none 0 0) := (bZ hst.1 1).trans rfl
  have r2 : w''.cell? ⟨g3, 0, none⟩ = some (.int .i64 (funcsE cnt)) := (bZ hst.2.1 0).trans rfl
  have r3 : w''.cell? ⟨g4, 0, none⟩ = some (.int .i64 (7)) := (bZ hst.2.2.1 0).trans rfl
  have HPo : Az (DecPost w bs (.returned (.tuple #[.agg #[.int .i64 0, .slice none 0 0], .int .i64 (funcsE cnt), .int .i64 (7)])) w'') := ⟨by unfold DecPost decOut; rw [HE.out]; exact ⟨.slice none 0 0, rfl, Kd.R_nil _ _ _ _ _, hst.2.2.2 w QZ.out G2.out G3.out G4.out⟩⟩
  clear hst Q2 Q3 Q4 QZ HE
  simp [Leaves, settle, results, Tryd.results24, go_sem, r0, r1, r2, r3]
  exact HPo.out
 rw [if_pos h1] at he
 subst he
 have H2 := Az.mk h1
 clear h1
 obtain ⟨N, rfl⟩ : ∃ N : Nat, cnt = (N : Int) := ⟨cnt.toNat, by have := HCr.out; omega⟩
 have HNr : Az (1 ≤ N ∧ N ≤ 65535) := ⟨by have := HCr.out; have h := H2.out; unfold funcsE at h; by_cases c : 1 ≤ (N : Int) ∧ (N : Int) ≤ 65535; exact (by omega); rw [if_neg c] at h; omega⟩
 go_wp2_with fail
 have HAb' : Az (AskW wb g 80 (rdR A bs.length c ((9 + 5 * 0 : Nat) : Int)) G none 0 0 B 0 7) := ⟨HAb.out⟩
 clear HAb
 go_loopw [8, 62] (fun v8 v62 w' => ∃ (q : Nat) (l : Int) (AF : Option Addr) (cF : Nat) (a : Int), q ≤ N ∧ v62 = .int .i64 (q : Int) ∧ Az (runE (headStep bs) 0 q = .ok l) ∧ Az (AskW w' g 80 (rdR A bs.length c ((9 + 5 * q : Nat) : Int)) G AF q cF B l a) ∧ Az (kH.R 46 w' wp.heap.size (fun k => wp.heap.size ≤ k) (.slice AF q cF) (hsOf bs q)) ∧ Az (kI.R 3 w' wp.heap.size (fun k => wp.heap.size ≤ k) v8 (szOf bs q)) ∧ Az (Below w.heap.size w w') ∧ Az (KeepBut wp w' g none)) (fun _ i _ => N - (intOf i).toNat)
 case atStart => exact ⟨0, 0, none, 0, 7, Nat.zero_le _, rfl, ⟨rfl⟩, HAb', ⟨Kd.R_nil _ _ _ _ _⟩, ⟨Kd.R_nil _ _ _ _ _⟩, HZb, HKb⟩
 case round =>
  obtain ⟨q, l, AF, cF, a, hq, rfl, HRn, HAq, HFq, HSq, HZq, HKq⟩ := hrel
  clear HAb' HZb HKb
  by_cases hlt : q < N
  rotate_left
  ·obtain rfl : N = q := by omega
   obtain ⟨bF, cF', hvF, hbF, -, -⟩ := Kd.R_form HFq.out (by rw [hsOf_len]; exact HNr.out.1)
   injection hvF with hvF hlq hcF
   clear hlq
   subst hvF
   subst hcF
   obtain ⟨bS, cS, hvS, -⟩ := Kd.R_form HSq.out (by rw [szOf_len]; exact HNr.out.1)
   rw [szOf_len] at hvS
   subst hvS
   have HbF : Az (bF ≠ g) := ⟨by have := HGp.out; omega⟩
   have HbFp := Az.mk hbF
   have HRh := HRn
   have HRn2 := Az.mk (heads_run HBy.out N l HRn.out)
   have hs1 : wr.cell? ⟨g, 1, none⟩ = some (.slice (some ⟨bF, 0, none⟩) N cF) := HAq.out.c1
   clear hlt hq hbF
   go_wp2_with fail
   clear hs1
   obtain ⟨fs, hfs⟩ : ∃ fs, fs = fsOf (hsOf bs N) := ⟨_, rfl⟩
   have HFs := Az.mk hfs
   have HFl : Az (fs.length = N) := ⟨by rw [hfs, fsOf_len, hsOf_len]⟩
   clear hfs
   go_loopw [77] (fun v77 w' => ∃ (q : Nat) (s : Nat × Int × List (List S50)) (hs : List HV) (a : Int), q ≤ N ∧ v77 = .int .i64 (q : Int) ∧ Az (runE (funcStep G fs bs) (9 + 5 * N, l, []) q = .ok s) ∧ Az (AskW w' g 80 (rdR A bs.length c (s.1 : Int)) G (some ⟨bF, 0, none⟩) N cF B s.2.1 a) ∧ Az (kH.R 46 w' wp.heap.size (fun k => wp.heap.size ≤ k) (.slice (some ⟨bF, 0, none⟩) N cF) hs) ∧ Az (fsOf hs = fs) ∧ Az (∀ i, q ≤ i → i < N → (hs.getD i hv0).c = .slice none 0 0) ∧ Az (CodeQ w' wp.heap.size hs s.2.2 q (.slice none 0 0)) ∧ Az (kI.R 3 w' wp.heap.size (fun k => wp.heap.size ≤ k) (.slice (some ⟨bS, 0, none⟩) N cS) (szOf bs N)) ∧ Az (s.2.2.length = q ∧ s.1 ≤ bs.length ∧ 0 ≤ s.2.1 ∧ s.2.1 < 1048576) ∧ Az (Below w.heap.size w w') ∧ Az (KeepBut wp w' g none)) (fun i _ => N - (intOf i).toNat)
   case atStart => exact ⟨0, (9 + 5 * N, l, []), hsOf bs N, a, Nat.zero_le _, rfl, ⟨rfl⟩, HAq, HFq, ⟨HFs.out.symm⟩, ⟨fun i _ hi => by rw [hs_at bs N i hi]; rfl⟩, ⟨fun i hi => by omega⟩, HSq, ⟨rfl, HRn2.out.2.1 L9.out, HRn2.out.1.1, HRn2.out.1.2⟩, HZq, HKq⟩
   case round =>
    obtain ⟨q, s, hs, a, hq, rfl, HRf, HAf, HFf, HFe, HNil, HCq, HSf, HIn, HZf, HKf⟩ := hrel
    clear HAq HFq HSq HZq HKq
    by_cases hlt : q < N
    rotate_left
    ·obtain rfl : N = q := by omega
     obtain ⟨nx, hnx⟩ : ∃ nx, nx = s.1 := ⟨_, rfl⟩
     have HNx := Az.mk hnx
     rw [← hnx] at HAf
     clear hnx
     have hs6 : wr.cell? ⟨g, 6, none⟩ = some (.int .i64 (nx : Int)) := (bZ HAf.out 6).trans rfl
     have hs4 : wr.cell? ⟨g, 4, none⟩ = some (.int .i64 a) := HAf.out.c4
     have hf4 := fZ HAf.out 4
     clear hlt hq
     go_wp2_with fail
     clear hs6 hs4 hf4
     have HA1 := Az.mk (HAf.out.set4 (nx : Int))
     have HZ1 : Az (Below w.heap.size w (wr.setCell ⟨g, 4, none⟩ (.int .i64 (nx : Int)))) := ⟨sZ HZf.out G15.out⟩
     have HK1 : Az (KeepBut wp (wr.setCell ⟨g, 4, none⟩ (.int .i64 (nx : Int))) g none) := ⟨HKf.out.set_ 4 _⟩
     have HKr : Az (KeepBut wr (wr.setCell ⟨g, 4, none⟩ (.int .i64 (nx : Int))) g none) := ⟨(KeepBut.refl wr g none).set_ 4 _⟩
     have HF1 : Az (kH.R 46 (wr.setCell ⟨g, 4, none⟩ (.int .i64 (nx : Int))) wp.heap.size (fun k => wp.heap.size ≤ k) (.slice (some ⟨bF, 0, none⟩) N cF) hs) := ⟨Kd.R_keep HFf.out HKr.out (fun k hk => by have := HGp.out; omega)⟩
     have HC1 : Az (CodeQ (wr.setCell ⟨g, 4, none⟩ (.int .i64 (nx : Int))) wp.heap.size hs s.2.2 N (.slice none 0 0)) := ⟨HCq.out.keep HKr.out HGp.out⟩
     obtain ⟨w1, hw1⟩ : ∃ w1, w1 = wr.setCell ⟨g, 4, none⟩ (.int .i64 (nx : Int)) := ⟨_, rfl⟩
     rw [← hw1] at HA1 HZ1 HK1 HF1 HC1 ⊢
     clear hw1 HAf HZf HKf HFf HCq HKr HSf HNil
     have hs6 : w1.cell? ⟨g, 6, none⟩ = some (.int .i64 (nx : Int)) := (bZ HA1.out 6).trans rfl
     have h4 : w1.drew.cell? ⟨g, 4, none⟩ = some (.int .i64 (nx : Int)) := HA1.out.c4
     obtain ⟨eb, heb⟩ : ∃ eb, ((nx : Int) == (n : Int)) = eb := ⟨_, rfl⟩
     refine wp_tail 10 (by kernel_rfl) (by kernel_rfl) ?_
     simp only [List.take_succ_cons, List.take_zero, List.drop_succ_cons, List.drop_zero]
     repeat still_step
     refine wpStill_nil ?_
     go_wp2_with fail
     refine (must_any g eb 22 nx w1.drew h4).mono ?_
     rintro e w' ⟨he, rfl⟩
     have HEb := Az.mk heb
     have HA2 : Az (AskW w1.drew g 80 (rdR A bs.length c (nx : Int)) G (some ⟨bF, 0, none⟩) N cF B s.2.1 nx) := ⟨HA1.out⟩
     have HZ2 : Az (Below w.heap.size w w1.drew) := ⟨HZ1.out.drew⟩
     have HK2 : Az (KeepBut wp w1.drew g none) := ⟨HK1.out⟩
     have HF2 : Az (kH.R 46 w1.drew wp.heap.size (fun k => wp.heap.size ≤ k) (.slice (some ⟨bF, 0, none⟩) N cF) hs) := ⟨Kd.R_drew HF1.out⟩
     have HC2 : Az (CodeQ w1.drew wp.heap.size hs s.2.2 N (.slice none 0 0)) := ⟨HC1.out.below (below_drew (Below.refl _ _))⟩
     clear heb hs6 h4 HA1 HZ1 HK1 HF1 HC1
     obtain ⟨we, hw2⟩ : ∃ we, we = w1.drew := ⟨_, rfl⟩
     rw [← hw2] at HA2 HZ2 HK2 HF2 HC2 ⊢
     clear hw2
     have HD : Az (decR bs = if s.1 = bs.length then .ok (G, withCode (hsOf bs N) s.2.2) else .error (22, s.1)) := ⟨by unfold decR; rw [if_pos HMg.out, if_pos (show 6 ≤ bs.length by have := L6.out; omega), if_pos (show 7 ≤ bs.length by have := L7.out; omega), ← HGv.out, if_pos H1.out, if_pos (show 9 ≤ bs.length by have := L9.out; omega), HCn.out, if_pos H2.out, Int.toNat_natCast, HRh.out]; dsimp only; rw [← HFs.out, HRf.out]⟩
     cases eb with
     | false =>
      replace he : e = .panicked [{ v := stopV 22 nx, recovered := false }] := he
      subst he
      have HE : Az (decR bs = .error (22, (nx : Int))) := ⟨by rw [HD.out, if_neg (by rw [← HNx.out, ← Hn.out]; have := HEb.out; rw [beq_eq_false_iff_ne] at this; omega), HNx.out]⟩
      have Q2 := Az.mk (HK2.out.blk P2.out N2.out (by simp))
      have Q3 := Az.mk (HK2.out.blk P3.out N3.out (by simp))
      have Q4 := Az.mk (HK2.out.blk P4.out N4.out (by simp))
      have QZ := Az.mk (HZ2.out)
      go_wp2_with fail
      refine leaves_cons (f := 41) (args := #[.pointer (some ⟨g2, 0, none⟩), .pointer (some ⟨g3, 0, none⟩), .pointer (some ⟨g4, 0, none⟩)]) (by simp) (by simp [go_sem]) ?_
      refine (catchD_stop g2 g3 g4 0 0 (22) ((nx : Int)) (.slice none 0 0) we Q2.out Q3.out ⟨0, Q4.out⟩).mono ?_
      rintro e u' w'' ⟨rfl, rfl, hst⟩
      have r0 : w''.cell? ⟨g2, 0, none⟩ = some (.int .i64 0) := (bZ hst.1 0).trans rfl
      have r1 : w''.cell? ⟨g2, 1, none⟩ = some (.slice none 0 0) := (bZ hst.1 1).trans rfl
      have r2 : w''.cell? ⟨g3, 0, none⟩ = some (.int .i64 (22)) := (bZ hst.2.1 0).trans rfl
      have r3 : w''.cell? ⟨g4, 0, none⟩ = some (.int .i64 ((nx : Int))) := (bZ hst.2.2.1 0).trans rfl
      have HPo : Az (DecPost w bs (.returned (.tuple #[.agg #[.int .i64 0, .slice none 0 0], .int .i64 (22), .int .i64 ((nx : Int))])) w'') := ⟨by unfold DecPost decOut; rw [HE.out]; exact ⟨.slice none 0 0, rfl, Kd.R_nil _ _ _ _ _, hst.2.2.2 w QZ.out G2.out G3.out G4.out⟩⟩
      clear hst Q2 Q3 Q4 QZ HE
      simp [Leaves, settle, results, Tryd.results24, go_sem, r0, r1, r2, r3]
      exact HPo.out
     | true =>
      replace he : e = .returned (.tuple #[]) := he
      subst he
      have HE : Az (decR bs = .ok (G, withCode (hsOf bs N) s.2.2)) := ⟨by rw [HD.out, if_pos (by rw [← HNx.out, ← Hn.out]; have := HEb.out; rw [beq_iff_eq] at this; omega)]⟩
      have Q2 := Az.mk (HK2.out.blk P2.out N2.out (by simp))
      have Q3 := Az.mk (HK2.out.blk P3.out N3.out (by simp))
      have Q4 := Az.mk (HK2.out.blk P4.out N4.out (by simp))
      have c0 : we.cell? ⟨g, 0, none⟩ = some (.int .i64 G) := HA2.out.c0
      have c1 : we.cell? ⟨g, 1, none⟩ = some (.slice (some ⟨bF, 0, none⟩) N cF) := HA2.out.c1
      have d0 : we.cell? ⟨g2, 0, none⟩ = some (.int .i64 0) := (bZ Q2.out 0).trans rfl
      have d1 : we.cell? ⟨g2, 1, none⟩ = some (.slice none 0 0) := (bZ Q2.out 1).trans rfl
      have d2 := fZ Q2.out 0
      have d3 := fZ Q2.out 1
      have d4 : we.cell? ⟨g3, 0, none⟩ = some (.int .i64 0) := (bZ Q3.out 0).trans rfl
      have d5 := fZ Q3.out 0
      have d6 : we.cell? ⟨g4, 0, none⟩ = some (.int .i64 0) := (bZ Q4.out 0).trans rfl
      have d7 := fZ Q4.out 0
      have n1 : g3 ≠ g2 := blk_ne_ty Q3.out Q2.out (by decide)
      have n2 : g4 ≠ g2 := blk_ne_ty Q4.out Q2.out (by decide)
      have n3 : g4 ≠ g3 := blk_ne_ty Q4.out Q3.out (by decide)
      have n4 : ¬ g2 = g3 := fun e => n1 e.symm
      have n5 : ¬ g2 = g4 := fun e => n2 e.symm
      have n6 : ¬ g3 = g4 := fun e => n3 e.symm
      go_wp2_with fail
      clear c0 c1 d0 d1 d2 d3 d4 d5 d6 d7
      have L2 := blk_lt P2.out
      have L3 := blk_lt P3.out
      have L4 := blk_lt P4.out
      have f1 : (we.setCell ⟨g2, 0, none⟩ (.int .i64 G)).heap[g2]? = some (.cells #[.int .i64 G, .slice none 0 0] 24 (0, 0)) := (blk_set Q2.out 0 _).trans rfl
      have f2 : ((we.setCell ⟨g2, 0, none⟩ (.int .i64 G)).setCell ⟨g2, 1, none⟩ (.slice (some ⟨bF, 0, none⟩) N cF)).heap[g2]? = some (.cells #[.int .i64 G, .slice (some ⟨bF, 0, none⟩) N cF] 24 (0, 0)) := (blk_set f1 1 _).trans rfl
      have R2 : Az (((((we.setCell ⟨g2, 0, none⟩ (.int .i64 G)).setCell ⟨g2, 1, none⟩ (.slice (some ⟨bF, 0, none⟩) N cF)).setCell ⟨g3, 0, none⟩ (.int .i64 0)).setCell ⟨g4, 0, none⟩ (.int .i64 0)).heap[g2]? = some (.cells #[.int .i64 G, .slice (some ⟨bF, 0, none⟩) N cF] 24 (0, 0))) := ⟨by rw [Below.heap_setCell _ _ _ _ n5, Below.heap_setCell _ _ _ _ n4]; exact f2⟩
      have f3 : (((we.setCell ⟨g2, 0, none⟩ (.int .i64 G)).setCell ⟨g2, 1, none⟩ (.slice (some ⟨bF, 0, none⟩) N cF)).setCell ⟨g3, 0, none⟩ (.int .i64 0)).heap[g3]? = some (.cells #[.int .i64 0] 27 (0, 0)) := (blk_set (by rw [Below.heap_setCell _ _ _ _ n1, Below.heap_setCell _ _ _ _ n1]; exact Q3.out) 0 _).trans rfl
      have R3 : Az (((((we.setCell ⟨g2, 0, none⟩ (.int .i64 G)).setCell ⟨g2, 1, none⟩ (.slice (some ⟨bF, 0, none⟩) N cF)).setCell ⟨g3, 0, none⟩ (.int .i64 0)).setCell ⟨g4, 0, none⟩ (.int .i64 0)).heap[g3]? = some (.cells #[.int .i64 0] 27 (0, 0))) := ⟨by rw [Below.heap_setCell _ _ _ _ n6]; exact f3⟩
      have R4 : Az (((((we.setCell ⟨g2, 0, none⟩ (.int .i64 G)).setCell ⟨g2, 1, none⟩ (.slice (some ⟨bF, 0, none⟩) N cF)).setCell ⟨g3, 0, none⟩ (.int .i64 0)).setCell ⟨g4, 0, none⟩ (.int .i64 0)).heap[g4]? = some (.cells #[.int .i64 0] 3 (0, 0))) := ⟨(blk_set (by rw [Below.heap_setCell _ _ _ _ n3, Below.heap_setCell _ _ _ _ n2, Below.heap_setCell _ _ _ _ n2]; exact Q4.out) 0 _).trans rfl⟩
      have HPr := to_prog HF2.out HC2.out HIn.out.1
      rw [withCode_eq s.2.2 (HFe.out.trans HFs.out)] at HPr
      have HR : Az (k46.R 46 ((((we.setCell ⟨g2, 0, none⟩ (.int .i64 G)).setCell ⟨g2, 1, none⟩ (.slice (some ⟨bF, 0, none⟩) N cF)).setCell ⟨g3, 0, none⟩ (.int .i64 0)).setCell ⟨g4, 0, none⟩ (.int .i64 0)) w.heap.size (fun k => w.heap.size ≤ k) (.slice (some ⟨bF, 0, none⟩) N cF) (withCode (hsOf bs N) s.2.2)) := ⟨Kd.R_lower (Kd.R_mono (Kd.R_far (Kd.R_far (Kd.R_far (Kd.R_far HPr (fun k hk => by show k ≠ g2; omega) _) (fun k hk => by show k ≠ g2; omega) _) (fun k hk => by show k ≠ g3; omega) _) (fun k hk => by show k ≠ g4; omega) _) (fun k hk => Nat.le_trans HZp.out.size hk)) HZp.out.size⟩
      have HZ9 : Az (Below w.heap.size w ((((we.setCell ⟨g2, 0, none⟩ (.int .i64 G)).setCell ⟨g2, 1, none⟩ (.slice (some ⟨bF, 0, none⟩) N cF)).setCell ⟨g3, 0, none⟩ (.int .i64 0)).setCell ⟨g4, 0, none⟩ (.int .i64 0))) := ⟨sZ (sZ (sZ (sZ HZ2.out G2.out) G2.out) G3.out) G4.out⟩
      obtain ⟨wf, hwf⟩ : ∃ wf, wf = ((((we.setCell ⟨g2, 0, none⟩ (.int .i64 G)).setCell ⟨g2, 1, none⟩ (.slice (some ⟨bF, 0, none⟩) N cF)).setCell ⟨g3, 0, none⟩ (.int .i64 0)).setCell ⟨g4, 0, none⟩ (.int .i64 0)) := ⟨_, rfl⟩
      rw [← hwf] at R2 R3 R4 HR HZ9 ⊢
      clear hwf f1 f2 f3 HPr L2 L3 L4 n1 n2 n3 n4 n5 n6 Q2 Q3 Q4 HF2 HC2 HZ2 HK2 HA2
      refine leaves_cons (f := 41) (args := #[.pointer (some ⟨g2, 0, none⟩), .pointer (some ⟨g3, 0, none⟩), .pointer (some ⟨g4, 0, none⟩)]) (by simp) (by simp [go_sem]) ?_
      refine (catchD_idle g2 g3 g4 wf).mono ?_
      rintro e u' w'' ⟨rfl, rfl, hst⟩
      have r0 : w''.cell? ⟨g2, 0, none⟩ = some (.int .i64 G) := (bZ (by rw [hst]; exact aZ R2.out _) 0).trans rfl
      have r1 : w''.cell? ⟨g2, 1, none⟩ = some (.slice (some ⟨bF, 0, none⟩) N cF) := (bZ (by rw [hst]; exact aZ R2.out _) 1).trans rfl
      have r2 : w''.cell? ⟨g3, 0, none⟩ = some (.int .i64 0) := (bZ (by rw [hst]; exact aZ R3.out _) 0).trans rfl
      have r3 : w''.cell? ⟨g4, 0, none⟩ = some (.int .i64 0) := (bZ (by rw [hst]; exact aZ R4.out _) 0).trans rfl
      have HPo : Az (DecPost w bs (.returned (.tuple #[.agg #[.int .i64 G, .slice (some ⟨bF, 0, none⟩) N cF], .int .i64 0, .int .i64 0])) w'') := ⟨by unfold DecPost decOut; rw [HE.out, hst]; exact ⟨_, rfl, Kd.R_alloc HR.out _, HZ9.out.alloc HZ9.out.size _⟩⟩
      clear hst
      simp [Leaves, settle, results, Tryd.results24, go_sem, r0, r1, r2, r3]
      exact HPo.out
    have hwp : wrap64 ((q : Int) + 1) = (q : Int) + 1 := wrap_in (by have := HNr.out; omega) (by have := HNr.out; omega)
    have HW1 := Az.mk hwp
    have q0 : (0 : Int) ≤ (q : Int) := Int.natCast_nonneg q
    have q1 : (q : Int) < (N : Int) := Int.ofNat_lt.mpr hlt
    have HLt := Az.mk hlt
    have hs1 : wr.cell? ⟨g, 1, none⟩ = some (.slice (some ⟨bF, 0, none⟩) N cF) := HAf.out.c1
    have hsz := sz_cell HSf.out q hlt
    have HMr := Az.mk (HRn2.out.2.2 q hlt)
    obtain ⟨m, hm9⟩ : ∃ m, m = hvN bs (9 + 5 * q) := ⟨_, rfl⟩
    have HMv := Az.mk hm9
    rw [← hm9] at hsz HMr
    obtain ⟨M, rfl⟩ : ∃ M : Nat, m = (M : Int) := ⟨m.toNat, by have := HMr.out; omega⟩
    clear hm9 hwp
    go_wp2_with fail
    have HHl : Az (hs.length = N) := ⟨((Kd.R_reads' HFf.out).1).symm⟩
    have HAt := Az.mk (fs_heads (HFe.out.trans HFs.out) q (by rw [HHl.out]; exact HLt.out) (by rw [hsOf_len]; exact HLt.out))
    rw [hs_at bs N q HLt.out] at HAt
    have HStp := Az.mk (runE_next HRf.out)
    obtain ⟨R, hR⟩ : ∃ R, R = (hvOf bs (9 + 5 * q)).R := ⟨_, rfl⟩
    obtain ⟨V, hV⟩ : ∃ V, V = (hvOf bs (9 + 5 * q)).V := ⟨_, rfl⟩
    have HRv := Az.mk hR
    have HVv := Az.mk hV
    rw [← hR, ← hV] at HAt
    have HStq : Az (funcStep G fs bs q s = match runE (codeStep G fs R V (M : Int) bs) (s.1, s.2.1, []) M with | .error e => .error e | .ok t => .ok (t.1, t.2.1, s.2.2 ++ [t.2.2])) := ⟨by unfold funcStep; rw [← HMv.out, ← hR, ← hV, Int.toNat_natCast]; rfl⟩
    clear hR hV hs1 hsz q0 q1
    go_loopw [92] (fun v92 w' => ∃ (k3 : Nat) (t : Nat × Int × List S50) (vq : Value) (hs2 : List HV) (a : Int), k3 ≤ M ∧ v92 = .int .i64 (k3 : Int) ∧ Az (runE (codeStep G fs R V (M : Int) bs) (s.1, s.2.1, []) k3 = .ok t) ∧ Az (AskW w' g 80 (rdR A bs.length c (t.1 : Int)) G (some ⟨bF, 0, none⟩) N cF B t.2.1 a) ∧ Az (kH.R 46 w' wp.heap.size (fun k => wp.heap.size ≤ k) (.slice (some ⟨bF, 0, none⟩) N cF) hs2) ∧ Az ((hs2.getD q hv0).c = vq) ∧ Az (fsOf hs2 = fs) ∧ Az (∀ i, q + 1 ≤ i → i < N → (hs2.getD i hv0).c = .slice none 0 0) ∧ Az (CodeQ w' wp.heap.size hs2 s.2.2 q vq) ∧ Az (k50.R 50 w' wp.heap.size (fun k => wp.heap.size ≤ k) vq t.2.2) ∧ Az (kI.R 3 w' wp.heap.size (fun k => wp.heap.size ≤ k) (.slice (some ⟨bS, 0, none⟩) N cS) (szOf bs N)) ∧ Az (t.2.2.length = k3 ∧ t.1 ≤ bs.length ∧ 0 ≤ t.2.1 ∧ t.2.1 < 1048576) ∧ Az (Below w.heap.size w w') ∧ Az (KeepBut wp w' g none)) (fun i _ => M - (intOf i).toNat)
    case atStart => exact ⟨0, (s.1, s.2.1, []), .slice none 0 0, hs, a, Nat.zero_le _, rfl, ⟨rfl⟩, HAf, HFf, ⟨HNil.out q (Nat.le_refl _) HLt.out⟩, HFe, ⟨fun i h1 h2 => HNil.out i (by omega) h2⟩, HCq, ⟨Kd.R_nil _ _ _ _ _⟩, HSf, ⟨rfl, HIn.out.2.1, HIn.out.2.2.1, HIn.out.2.2.2⟩, HZf, HKf⟩
    case round =>
     obtain ⟨k3, t, vq, hs2, a2, hk3, rfl, HRk, HAk, HFk, HCk, HEk, HNk, HQk, HXk, HSk, HIk, HZk, HKk⟩ := hrel
     clear HAf HFf HFe HNil HCq HSf HZf HKf HHl HAt
     by_cases hlt3 : k3 < M
     rotate_left
     ·obtain rfl : M = k3 := by omega
      have HSt2 : Az (runE (funcStep G fs bs) (9 + 5 * N, l, []) (q + 1) = .ok (t.1, t.2.1, s.2.2 ++ [t.2.2])) := ⟨by rw [HStp.out, HStq.out, HRk.out]⟩
      have HC2 : Az (CodeQ wr wp.heap.size hs2 (s.2.2 ++ [t.2.2]) (q + 1) (.slice none 0 0)) := ⟨CodeQ.next HQk.out HXk.out HCk.out HIn.out.1⟩
      have HI2 : Az ((s.2.2 ++ [t.2.2]).length = q + 1 ∧ t.1 ≤ bs.length ∧ 0 ≤ t.2.1 ∧ t.2.1 < 1048576) := ⟨by rw [List.length_append, HIn.out.1]; rfl, HIk.out.2.1, HIk.out.2.2.1, HIk.out.2.2.2⟩
      have hwp := HW1.out
      clear hlt3 hk3
      go_wp2_with fail
      go_roundw
      case rel => exact ⟨q + 1, (t.1, t.2.1, s.2.2 ++ [t.2.2]), hs2, a2, Nat.succ_le_of_lt HLt.out, by go_num, HSt2, HAk, HFk, HEk, HNk, HC2, HSk, HI2, HZk, HKk⟩
      case measure => rw [hwp]; exact Nat.sub_lt_sub_left (show q < N from HLt.out) (show q < q + 1 from Nat.lt_succ_self q)
     have hwp2 : wrap64 ((k3 : Int) + 1) = (k3 : Int) + 1 := wrap_in (by have := HMr.out; omega) (by have := HMr.out; omega)
     have hwm : wrap64 ((M : Int) - 1) = (M : Int) - 1 := wrap_in (by have := HMr.out; omega) (by have := HMr.out; omega)
     have k0 : (0 : Int) ≤ (k3 : Int) := Int.natCast_nonneg k3
     have k1 : (k3 : Int) < (M : Int) := Int.ofNat_lt.mpr hlt3
     have q0 : (0 : Int) ≤ (q : Int) := Int.natCast_nonneg q
     have q1 : (q : Int) < (N : Int) := Int.ofNat_lt.mpr HLt.out
     have HLt3 := Az.mk hlt3
     obtain ⟨lb, hlb⟩ : ∃ lb, ((k3 : Int) == (M : Int) - 1) = lb := ⟨_, rfl⟩
     have HLb := Az.mk hlb
     obtain ⟨Aq, cq, hvq⟩ := Kd.R_slice HXk.out
     subst hvq
     rw [HIk.out.1] at HXk HCk HQk
     have HCell := Az.mk (kH_at HFk.out q HLt.out)
     have hs0 := HCell.out.2.2.2.1
     rw [HCk.out] at hs0
     have hsz := sz_cell HSk.out q HLt.out
     rw [← HMv.out] at hsz
     have HHl2 : Az (hs2.length = N) := ⟨((Kd.R_reads' HFk.out).1).symm⟩
     have HAt2 := Az.mk (fs_heads (HEk.out.trans HFs.out) q (by rw [HHl2.out]; exact HLt.out) (by rw [hsOf_len]; exact HLt.out))
     rw [hs_at bs N q HLt.out, ← HRv.out, ← HVv.out] at HAt2
     have HIns := Az.mk (instr_rd g ⟨bF, q * 4, none⟩ R V (M : Int) fs lb G (some ⟨bF, 0, none⟩) cF B t.2.1 a2 A c bs t.1 w wr.drew HZk.out.drew G15.out (by rw [HFl.out]; exact HAk.out) HBs.out HIk.out.2.1 HBy.out HIk.out.2.2.1 HIk.out.2.2.2 HbF.out (by rw [← HAt2.out.2.1]; exact HCell.out.2.1) (by rw [← HAt2.out.2.2]; exact HCell.out.2.2.1) (HEk.out ▸ kH_heads (Kd.R_drew HFk.out)) (fun ad he => by injection he with he; subst he; exact HbF.out) HT.out (OpsAt.keep (w' := wr.drew) HOp.out HKk.out HBg.out HAp.out) HBg.out)
     have HStk := Az.mk (runE_next HRk.out)
     have HCs : Az (codeStep G fs R V (M : Int) bs k3 t = match instrR G fs R V (M : Int) bs lb t.1 t.2.1 with | .error e => .error e | .ok t2 => .ok (t2.2.1, t2.2.2, t.2.2 ++ [t2.1])) := ⟨by unfold codeStep; rw [hlb]; rfl⟩
     have HIo : Az (∀ x, instrR G fs R V (M : Int) bs lb t.1 t.2.1 = .ok x → x.2.1 ≤ bs.length ∧ 0 ≤ x.2.2 ∧ x.2.2 < 1048576) := ⟨fun x hx => instrR_ok HBy.out ⟨HIk.out.2.2.1, HIk.out.2.2.2⟩ hx⟩
     have HHX : Az (∀ k_, (Value.slice Aq k3 cq).ownBlock = some k_ → k_ < wr.heap.size) := ⟨Kd.R_lt HXk.out⟩
     have HW2 := Az.mk hwp2
     clear hwp2 hlt3 hk3
     go_wp2_with fail
     clear q0 q1 k0 k1
     generalize hres : instrR G fs R V (M : Int) bs lb t.1 t.2.1 = res at HIns HCs HIo
     cases res with
     | error er =>
      have HIe : Az (Calls Tryd.prog 47 #[.pointer (some ⟨g, 0, none⟩), .pointer (some ⟨bF, q * 4, none⟩), .int .i64 (M : Int), .bool lb] wr.drew fun e w'' => e = .panicked [{ v := stopV er.1 er.2, recovered := false }] ∧ Below w.heap.size w w'' ∧ KeepBut wr.drew w'' g none) := ⟨HIns.out.mono fun e w'' h => ⟨h.2.2, h.1, h.2.1⟩⟩
      refine wp_defq ?_
      refine start_ (n := 24) (S := fun w' => w'.cell? ⟨bF, q * 4 + 3, none⟩ = some (.slice Aq k3 cq) ∧ w'.cell? ⟨bS, q, none⟩ = some (.int .i64 (M : Int))) (ds := []) #[false, false, false, false, false, false, false, false, false, false, false, false, false, false, false, false, false, false, false, false, false, false, false, false] (by kernel_rfl) rfl rfl ⟨hs0, hsz⟩ (fun hHeld => ?_)
      refine with_tabW TAB_24.tab23 TAB_24.bits23 (fun HT_ HW_ => ?_)
      refine pure_ (i := 0) (N := some 95) (v := ?_) (a' := ?_) #[true, false, false, false, false, false, false, false, false, false, false, false, false, false, false, false, false, false, false, false, false, false, false, false] rfl rfl (any_of HT_.out (by kernel_rfl)) (fun _ _ _ h => DefQ.put h) (Or.inl ⟨by rfl, ?_⟩) ?_ ?_
      rotate_left
      ·intro w'
       go_simp
       with_reducible rfl
      rotate_left
      ·simp only [Act.put, pn, i64_w, i32_w]
       rfl
      refine pure_ (i := 1) (N := some 96) (v := ?_) (a' := ?_) #[true, true, false, false, false, false, false, false, false, false, false, false, false, false, false, false, false, false, false, false, false, false, false, false] rfl rfl (any_of HT_.out (by kernel_rfl)) (fun _ _ _ h => DefQ.put h) (Or.inl ⟨by rfl, ?_⟩) ?_ ?_
      rotate_left
      ·intro w'
       go_simp
       with_reducible rfl
      rotate_left
      ·simp only [Act.put, pn, i64_w, i32_w]
       rfl
      refine pure_ (i := 2) (N := some 97) (v := ?_) (a' := ?_) #[true, true, true, false, false, false, false, false, false, false, false, false, false, false, false, false, false, false, false, false, false, false, false, false] rfl rfl (any_of HT_.out (by kernel_rfl)) (fun _ _ _ h => DefQ.put h) (Or.inl ⟨by rfl, ?_⟩) ?_ ?_
      rotate_left
      ·intro w'
       go_simp
       with_reducible rfl
      rotate_left
      ·simp only [Act.put, pn, i64_w, i32_w]
       rfl
      refine pure_ (i := 3) (N := some 98) (v := ?_) (a' := ?_) #[true, true, true, true, false, false, false, false, false, false, false, false, false, false, false, false, false, false, false, false, false, false, false, false] rfl rfl (any_of HT_.out (by kernel_rfl)) (fun _ _ _ h => DefQ.put h) (Or.inl ⟨by rfl, ?_⟩) ?_ ?_
      rotate_left
      ·intro w'
       go_simp
       with_reducible rfl
      rotate_left
      ·simp only [Act.put, pn, i64_w, i32_w]
       rfl
      refine pure_ (i := 5) (N := some 100) (v := ?_) (a' := ?_) #[true, true, true, true, false, true, false, false, false, false, false, false, false, false, false, false, false, false, false, false, false, false, false, false] rfl rfl (any_of HT_.out (by kernel_rfl)) (fun _ _ _ h => DefQ.put h) (Or.inl ⟨by rfl, ?_⟩) ?_ ?_
      rotate_left
      ·intro w'
       go_simp
       with_reducible rfl
      rotate_left
      ·simp only [Act.put, pn, i64_w, i32_w]
       rfl
      refine pure_ (i := 6) (N := some 101) (v := ?_) (a' := ?_) #[true, true, true, true, false, true, true, false, false, false, false, false, false, false, false, false, false, false, false, false, false, false, false, false] rfl rfl (any_of HT_.out (by kernel_rfl)) (fun _ _ _ h => DefQ.put h) (Or.inl ⟨by rfl, ?_⟩) ?_ ?_
      rotate_left
      ·intro w'
       go_simp
       with_reducible rfl
      rotate_left
      ·simp only [Act.put, pn, i64_w, i32_w]
       rfl
      refine pure_ (i := 7) (N := some 102) (v := ?_) (a' := ?_) #[true, true, true, true, false, true, true, true, false, false, false, false, false, false, false, false, false, false, false, false, false, false, false, false] rfl rfl (any_of HT_.out (by kernel_rfl)) (fun _ _ _ h => DefQ.put h) (Or.inl ⟨by rfl, ?_⟩) ?_ ?_
      rotate_left
      ·intro w'
       go_simp
       with_reducible rfl
      rotate_left
      ·simp only [Act.put, pn, i64_w, i32_w]
       rfl
      refine pure_ (i := 8) (N := some 103) (v := ?_) (a' := ?_) #[true, true, true, true, false, true, true, true, true, false, false, false, false, false, false, false, false, false, false, false, false, false, false, false] rfl rfl (any_of HT_.out (by kernel_rfl)) (fun _ _ _ h => DefQ.put h) (Or.inl ⟨by rfl, ?_⟩) ?_ ?_
      rotate_left
      ·intro w'
       go_simp
       with_reducible rfl
      rotate_left
      ·simp only [Act.put, pn, i64_w, i32_w]
       rfl
      refine pure_ (i := 9) (N := some 104) (v := ?_) (a' := ?_) #[true, true, true, true, false, true, true, true, true, true, false, false, false, false, false, false, false, false, false, false, false, false, false, false] rfl rfl (any_of HT_.out (by kernel_rfl)) (fun _ _ _ h => DefQ.put h) (Or.inl ⟨by rfl, ?_⟩) ?_ ?_
      rotate_left
      ·intro w'
       go_simp
       with_reducible rfl
      rotate_left
      ·simp only [Act.put, pn, i64_w, i32_w]
       rfl
      refine pure_ (i := 11) (N := some 106) (v := ?_) (a' := ?_) #[true, true, true, true, false, true, true, true, true, true, false, true, false, false, false, false, false, false, false, false, false, false, false, false] rfl rfl (any_of HT_.out (by kernel_rfl)) (fun _ _ _ h => DefQ.put h) (Or.inl ⟨by rfl, ?_⟩) ?_ ?_
      rotate_left
      ·intro w'
       go_simp
       with_reducible rfl
      rotate_left
      ·simp only [Act.put, pn, i64_w, i32_w]
       rfl
      refine pure_ (i := 12) (N := some 107) (v := ?_) (a' := ?_) #[true, true, true, true, false, true, true, true, true, true, false, true, true, false, false, false, false, false, false, false, false, false, false, false] rfl rfl (any_of HT_.out (by kernel_rfl)) (fun _ _ _ h => DefQ.put h) (Or.inl ⟨by rfl, ?_⟩) ?_ ?_
      rotate_left
      ·intro w'
       go_simp
       with_reducible rfl
      rotate_left
      ·simp only [Act.put, pn, i64_w, i32_w]
       rfl
      refine pure_ (i := 13) (N := some 108) (v := ?_) (a' := ?_) #[true, true, true, true, false, true, true, true, true, true, false, true, true, true, false, false, false, false, false, false, false, false, false, false] rfl rfl (any_of HT_.out (by kernel_rfl)) (fun _ _ _ h => DefQ.put h) (Or.inl ⟨by rfl, ?_⟩) ?_ ?_
      rotate_left
      ·intro w'
       go_simp
       with_reducible rfl
      rotate_left
      ·simp only [Act.put, pn, i64_w, i32_w]
       rfl
      refine pure_ (i := 14) (N := some 109) (v := ?_) (a' := ?_) #[true, true, true, true, false, true, true, true, true, true, false, true, true, true, true, false, false, false, false, false, false, false, false, false] rfl rfl (any_of HT_.out (by kernel_rfl)) (fun _ _ _ h => DefQ.put h) (Or.inl ⟨by rfl, ?_⟩) ?_ ?_
      rotate_left
      ·intro w'
       go_simp
       with_reducible rfl
      rotate_left
      ·simp only [Act.put, pn, i64_w, i32_w]
       rfl
      refine pt 4 (some 99) (v := ?_) (a' := ?_) rfl rfl (take_ofW HT_.out HW_.out (by kernel_rfl)) (fun _ _ _ h => DefQ.put h) (Or.inl ⟨by rfl, ?_⟩) hHeld ?_ ?_
      rotate_left; (rintro w' ⟨s0, s1⟩; go_simp; with_reducible rfl); rotate_left; (simp only [Act.put, pn, i64_w, i32_w]; rfl)
      refine pt 10 (some 105) (v := ?_) (a' := ?_) rfl rfl (take_ofW HT_.out HW_.out (by kernel_rfl)) (fun _ _ _ h => DefQ.put h) (Or.inl ⟨by rfl, ?_⟩) hHeld ?_ ?_
      rotate_left; (rintro w' ⟨s0, s1⟩; go_simp; with_reducible rfl); rotate_left; (simp only [Act.put, pn, i64_w, i32_w]; rfl)
      refine pt 15 (some 110) (v := ?_) (a' := ?_) rfl rfl (take_ofW HT_.out HW_.out (by kernel_rfl)) (fun _ _ _ h => DefQ.put h) (Or.inl ⟨by rfl, ?_⟩) hHeld ?_ ?_
      rotate_left; (rintro w' ⟨s0, s1⟩; go_simp; with_reducible rfl); rotate_left; (simp only [Act.put, pn, i64_w, i32_w]; rfl)
      refine pure_ (i := 16) (N := some 111) (v := ?_) (a' := ?_) #[true, true, true, true, true, true, true, true, true, true, true, true, true, true, true, true, true, false, false, false, false, false, false, false] rfl rfl (any_of HT_.out (by kernel_rfl)) (fun _ _ _ h => DefQ.put h) (Or.inl ⟨by rfl, ?_⟩) ?_ ?_
      rotate_left
      ·intro w'
       go_simp
       with_reducible rfl
      rotate_left
      ·simp only [Act.put, pn, i64_w, i32_w]
       rfl
      refine pure_ (i := 17) (N := some 112) (v := ?_) (a' := ?_) #[true, true, true, true, true, true, true, true, true, true, true, true, true, true, true, true, true, true, false, false, false, false, false, false] rfl rfl (any_of HT_.out (by kernel_rfl)) (fun _ _ _ h => DefQ.put h) (Or.inl ⟨by rfl, ?_⟩) ?_ ?_
      rotate_left
      ·intro w'
       go_simp
       with_reducible rfl
      rotate_left
      ·simp only [Act.put, pn, i64_w, i32_w]
       rfl
      refine one_ (i := 18) (N := some 113) #[true, true, true, true, true, true, true, true, true, true, true, true, true, true, true, true, true, true, true, false, false, false, false, false] rfl rfl (one_of HT_.out (by kernel_rfl)) (by decide) (fun K hK => ?_)
      refine goesP_ Tryd.func47 (by kernel_rfl) rfl #[.pointer (some ⟨g, 0, none⟩), .pointer (some ⟨bF, q * 4, none⟩), .int .i64 (M : Int), .bool lb] (by rfl) rfl rfl (by simp only [List.map_toArray, List.map_cons, List.map_nil]; rfl) ?_
      with_reducible refine HIe.out.mono ?_
      rintro e_ wm ⟨rfl, hZ, hK⟩
      refine ⟨_, rfl, ?_⟩
      rintro ⟨T, D⟩ hD ht
      replace hD : D = _ := hD
      subst hD
      have t2 : T[2]?.getD undef = .pointer (some ⟨g2, 0, none⟩) := (ht 2 (by omega)).trans rfl
      have t3 : T[3]?.getD undef = .pointer (some ⟨g3, 0, none⟩) := (ht 3 (by omega)).trans rfl
      have t4 : T[4]?.getD undef = .pointer (some ⟨g4, 0, none⟩) := (ht 4 (by omega)).trans rfl
      clear ht
      have HZm := Az.mk hZ
      have HKm2 : Az (KeepBut wp wm g none) := ⟨KeepBut.trans HKk.out hK (.inl rfl)⟩
      clear hZ hK hHeld HT_ HW_ hs0 hsz
      dsimp only
      have HE : Az (decR bs = .error (er.1, er.2)) := ⟨by have hin := runE_err (show runE (codeStep G fs R V (M : Int) bs) (s.1, s.2.1, []) (k3 + 1) = .error er from by rw [HStk.out, HCs.out]) M (by have := HLt3.out; omega); have hou := runE_err (show runE (funcStep G fs bs) (9 + 5 * N, l, []) (q + 1) = .error er from by rw [HStp.out, HStq.out, hin]) N (by have := HLt.out; omega); unfold decR; rw [if_pos HMg.out, if_pos (show 6 ≤ bs.length by have := L6.out; omega), if_pos (show 7 ≤ bs.length by have := L7.out; omega), ← HGv.out, if_pos H1.out, if_pos (show 9 ≤ bs.length by have := L9.out; omega), HCn.out, if_pos H2.out, Int.toNat_natCast, HRh.out]; dsimp only; rw [← HFs.out, hou]⟩
      have Q2 := Az.mk (HKm2.out.blk P2.out N2.out (by simp))
      have Q3 := Az.mk (HKm2.out.blk P3.out N3.out (by simp))
      have Q4 := Az.mk (HKm2.out.blk P4.out N4.out (by simp))
      have QZ := Az.mk (HZm.out)
      go_wp2_with fail
      refine leaves_cons (f := 41) (args := #[.pointer (some ⟨g2, 0, none⟩), .pointer (some ⟨g3, 0, none⟩), .pointer (some ⟨g4, 0, none⟩)]) (by simp) (by simp [go_sem]) ?_
      refine (catchD_stop g2 g3 g4 0 0 (er.1) (er.2) (.slice none 0 0) wm Q2.out Q3.out ⟨0, Q4.out⟩).mono ?_
      rintro e u' w'' ⟨rfl, rfl, hst⟩
      have r0 : w''.cell? ⟨g2, 0, none⟩ = some (.int .i64 0) := (bZ hst.1 0).trans rfl
      have r1 : w''.cell? ⟨g2, 1, none⟩ = some (.slice none 0 0) := (bZ hst.1 1).trans rfl
      have r2 : w''.cell? ⟨g3, 0, none⟩ = some (.int .i64 (er.1)) := (bZ hst.2.1 0).trans rfl
      have r3 : w''.cell? ⟨g4, 0, none⟩ = some (.int .i64 (er.2)) := (bZ hst.2.2.1 0).trans rfl
      have HPo : Az (DecPost w bs (.returned (.tuple #[.agg #[.int .i64 0, .slice none 0 0], .int .i64 (er.1), .int .i64 (er.2)])) w'') := ⟨by unfold DecPost decOut; rw [HE.out]; exact ⟨.slice none 0 0, rfl, Kd.R_nil _ _ _ _ _, hst.2.2.2 w QZ.out G2.out G3.out G4.out⟩⟩
      clear hst Q2 Q3 Q4 QZ HE
      simp [Leaves, settle, results, Tryd.results24, go_sem, r0, r1, r2, r3, t2, t3, t4]
      exact HPo.out
     | ok x =>
      have HIe : Az (Calls Tryd.prog 47 #[.pointer (some ⟨g, 0, none⟩), .pointer (some ⟨bF, q * 4, none⟩), .int .i64 (M : Int), .bool lb] wr.drew fun e w'' => (∃ v5 v6, e = .returned (.agg #[.int .i64 x.1.f0, .int .i64 x.1.f1, .int .i64 x.1.f2, .int .i64 x.1.f3, .int .i64 x.1.f4, v5, v6]) ∧ kI.R 3 w'' wr.drew.heap.size (fun k => wr.drew.heap.size ≤ k) v5 x.1.f5 ∧ kI.R 3 w'' wr.drew.heap.size (fun k => wr.drew.heap.size ≤ k) v6 x.1.f6) ∧ (∃ at_, AskW w'' g 80 (rdR A bs.length c (x.2.1 : Int)) G (some ⟨bF, 0, none⟩) N cF B x.2.2 at_) ∧ Below w.heap.size w w'' ∧ KeepBut wr.drew w'' g none) := ⟨HIns.out.mono fun e w'' h => ⟨h.2.2.1, (by have := h.2.2.2; rw [HFl.out] at this; exact this), h.1, h.2.1⟩⟩
      refine wp_defq ?_
      refine start_ (n := 24) (S := fun w' => w'.cell? ⟨bF, q * 4 + 3, none⟩ = some (.slice Aq k3 cq) ∧ w'.cell? ⟨bS, q, none⟩ = some (.int .i64 (M : Int))) (ds := [23]) #[false, false, false, false, false, false, false, false, false, false, false, false, false, false, false, false, false, false, false, false, false, false, false, false] (by kernel_rfl) rfl rfl ⟨hs0, hsz⟩ (fun hHeld => ?_)
      refine with_tabW TAB_24.tab23 TAB_24.bits23 (fun HT_ HW_ => ?_)
      refine pure_ (i := 0) (N := some 95) (v := ?_) (a' := ?_) #[true, false, false, false, false, false, false, false, false, false, false, false, false, false, false, false, false, false, false, false, false, false, false, false] rfl rfl (any_of HT_.out (by kernel_rfl)) (fun _ _ _ h => DefQ.put h) (Or.inl ⟨by rfl, ?_⟩) ?_ ?_
      rotate_left
      ·intro w'
       go_simp
       with_reducible rfl
      rotate_left
      ·simp only [Act.put, pn, i64_w, i32_w]
       rfl
      refine pure_ (i := 1) (N := some 96) (v := ?_) (a' := ?_) #[true, true, false, false, false, false, false, false, false, false, false, false, false, false, false, false, false, false, false, false, false, false, false, false] rfl rfl (any_of HT_.out (by kernel_rfl)) (fun _ _ _ h => DefQ.put h) (Or.inl ⟨by rfl, ?_⟩) ?_ ?_
      rotate_left
      ·intro w'
       go_simp
       with_reducible rfl
      rotate_left
      ·simp only [Act.put, pn, i64_w, i32_w]
       rfl
      refine pure_ (i := 2) (N := some 97) (v := ?_) (a' := ?_) #[true, true, true, false, false, false, false, false, false, false, false, false, false, false, false, false, false, false, false, false, false, false, false, false] rfl rfl (any_of HT_.out (by kernel_rfl)) (fun _ _ _ h => DefQ.put h) (Or.inl ⟨by rfl, ?_⟩) ?_ ?_
      rotate_left
      ·intro w'
       go_simp
       with_reducible rfl
      rotate_left
      ·simp only [Act.put, pn, i64_w, i32_w]
       rfl
      refine pure_ (i := 3) (N := some 98) (v := ?_) (a' := ?_) #[true, true, true, true, false, false, false, false, false, false, false, false, false, false, false, false, false, false, false, false, false, false, false, false] rfl rfl (any_of HT_.out (by kernel_rfl)) (fun _ _ _ h => DefQ.put h) (Or.inl ⟨by rfl, ?_⟩) ?_ ?_
      rotate_left
      ·intro w'
       go_simp
       with_reducible rfl
      rotate_left
      ·simp only [Act.put, pn, i64_w, i32_w]
       rfl
      refine pure_ (i := 5) (N := some 100) (v := ?_) (a' := ?_) #[true, true, true, true, false, true, false, false, false, false, false, false, false, false, false, false, false, false, false, false, false, false, false, false] rfl rfl (any_of HT_.out (by kernel_rfl)) (fun _ _ _ h => DefQ.put h) (Or.inl ⟨by rfl, ?_⟩) ?_ ?_
      rotate_left
      ·intro w'
       go_simp
       with_reducible rfl
      rotate_left
      ·simp only [Act.put, pn, i64_w, i32_w]
       rfl
      refine pure_ (i := 6) (N := some 101) (v := ?_) (a' := ?_) #[true, true, true, true, false, true, true, false, false, false, false, false, false, false, false, false, false, false, false, false, false, false, false, false] rfl rfl (any_of HT_.out (by kernel_rfl)) (fun _ _ _ h => DefQ.put h) (Or.inl ⟨by rfl, ?_⟩) ?_ ?_
      rotate_left
      ·intro w'
       go_simp
       with_reducible rfl
      rotate_left
      ·simp only [Act.put, pn, i64_w, i32_w]
       rfl
      refine pure_ (i := 7) (N := some 102) (v := ?_) (a' := ?_) #[true, true, true, true, false, true, true, true, false, false, false, false, false, false, false, false, false, false, false, false, false, false, false, false] rfl rfl (any_of HT_.out (by kernel_rfl)) (fun _ _ _ h => DefQ.put h) (Or.inl ⟨by rfl, ?_⟩) ?_ ?_
      rotate_left
      ·intro w'
       go_simp
       with_reducible rfl
      rotate_left
      ·simp only [Act.put, pn, i64_w, i32_w]
       rfl
      refine pure_ (i := 8) (N := some 103) (v := ?_) (a' := ?_) #[true, true, true, true, false, true, true, true, true, false, false, false, false, false, false, false, false, false, false, false, false, false, false, false] rfl rfl (any_of HT_.out (by kernel_rfl)) (fun _ _ _ h => DefQ.put h) (Or.inl ⟨by rfl, ?_⟩) ?_ ?_
      rotate_left
      ·intro w'
       go_simp
       with_reducible rfl
      rotate_left
      ·simp only [Act.put, pn, i64_w, i32_w]
       rfl
      refine pure_ (i := 9) (N := some 104) (v := ?_) (a' := ?_) #[true, true, true, true, false, true, true, true, true, true, false, false, false, false, false, false, false, false, false, false, false, false, false, false] rfl rfl (any_of HT_.out (by kernel_rfl)) (fun _ _ _ h => DefQ.put h) (Or.inl ⟨by rfl, ?_⟩) ?_ ?_
      rotate_left
      ·intro w'
       go_simp
       with_reducible rfl
      rotate_left
      ·simp only [Act.put, pn, i64_w, i32_w]
       rfl
      refine pure_ (i := 11) (N := some 106) (v := ?_) (a' := ?_) #[true, true, true, true, false, true, true, true, true, true, false, true, false, false, false, false, false, false, false, false, false, false, false, false] rfl rfl (any_of HT_.out (by kernel_rfl)) (fun _ _ _ h => DefQ.put h) (Or.inl ⟨by rfl, ?_⟩) ?_ ?_
      rotate_left
      ·intro w'
       go_simp
       with_reducible rfl
      rotate_left
      ·simp only [Act.put, pn, i64_w, i32_w]
       rfl
      refine pure_ (i := 12) (N := some 107) (v := ?_) (a' := ?_) #[true, true, true, true, false, true, true, true, true, true, false, true, true, false, false, false, false, false, false, false, false, false, false, false] rfl rfl (any_of HT_.out (by kernel_rfl)) (fun _ _ _ h => DefQ.put h) (Or.inl ⟨by rfl, ?_⟩) ?_ ?_
      rotate_left
      ·intro w'
       go_simp
       with_reducible rfl
      rotate_left
      ·simp only [Act.put, pn, i64_w, i32_w]
       rfl
      refine pure_ (i := 13) (N := some 108) (v := ?_) (a' := ?_) #[true, true, true, true, false, true, true, true, true, true, false, true, true, true, false, false, false, false, false, false, false, false, false, false] rfl rfl (any_of HT_.out (by kernel_rfl)) (fun _ _ _ h => DefQ.put h) (Or.inl ⟨by rfl, ?_⟩) ?_ ?_
      rotate_left
      ·intro w'
       go_simp
       with_reducible rfl
      rotate_left
      ·simp only [Act.put, pn, i64_w, i32_w]
       rfl
      refine pure_ (i := 14) (N := some 109) (v := ?_) (a' := ?_) #[true, true, true, true, false, true, true, true, true, true, false, true, true, true, true, false, false, false, false, false, false, false, false, false] rfl rfl (any_of HT_.out (by kernel_rfl)) (fun _ _ _ h => DefQ.put h) (Or.inl ⟨by rfl, ?_⟩) ?_ ?_
      rotate_left
      ·intro w'
       go_simp
       with_reducible rfl
      rotate_left
      ·simp only [Act.put, pn, i64_w, i32_w]
       rfl
      refine pt 4 (some 99) (v := ?_) (a' := ?_) rfl rfl (take_ofW HT_.out HW_.out (by kernel_rfl)) (fun _ _ _ h => DefQ.put h) (Or.inl ⟨by rfl, ?_⟩) hHeld ?_ ?_
      rotate_left; (rintro w' ⟨s0, s1⟩; go_simp; with_reducible rfl); rotate_left; (simp only [Act.put, pn, i64_w, i32_w]; rfl)
      refine pt 10 (some 105) (v := ?_) (a' := ?_) rfl rfl (take_ofW HT_.out HW_.out (by kernel_rfl)) (fun _ _ _ h => DefQ.put h) (Or.inl ⟨by rfl, ?_⟩) hHeld ?_ ?_
      rotate_left; (rintro w' ⟨s0, s1⟩; go_simp; with_reducible rfl); rotate_left; (simp only [Act.put, pn, i64_w, i32_w]; rfl)
      refine pt 15 (some 110) (v := ?_) (a' := ?_) rfl rfl (take_ofW HT_.out HW_.out (by kernel_rfl)) (fun _ _ _ h => DefQ.put h) (Or.inl ⟨by rfl, ?_⟩) hHeld ?_ ?_
      rotate_left; (rintro w' ⟨s0, s1⟩; go_simp; with_reducible rfl); rotate_left; (simp only [Act.put, pn, i64_w, i32_w]; rfl)
      refine pure_ (i := 16) (N := some 111) (v := ?_) (a' := ?_) #[true, true, true, true, true, true, true, true, true, true, true, true, true, true, true, true, true, false, false, false, false, false, false, false] rfl rfl (any_of HT_.out (by kernel_rfl)) (fun _ _ _ h => DefQ.put h) (Or.inl ⟨by rfl, ?_⟩) ?_ ?_
      rotate_left
      ·intro w'
       go_simp
       with_reducible rfl
      rotate_left
      ·simp only [Act.put, pn, i64_w, i32_w]
       rfl
      refine pure_ (i := 17) (N := some 112) (v := ?_) (a' := ?_) #[true, true, true, true, true, true, true, true, true, true, true, true, true, true, true, true, true, true, false, false, false, false, false, false] rfl rfl (any_of HT_.out (by kernel_rfl)) (fun _ _ _ h => DefQ.put h) (Or.inl ⟨by rfl, ?_⟩) ?_ ?_
      rotate_left
      ·intro w'
       go_simp
       with_reducible rfl
      rotate_left
      ·simp only [Act.put, pn, i64_w, i32_w]
       rfl
      refine one_ (i := 18) (N := some 113) #[true, true, true, true, true, true, true, true, true, true, true, true, true, true, true, true, true, true, true, false, false, false, false, false] rfl rfl (one_of HT_.out (by kernel_rfl)) (by decide) (fun K hK => ?_)
      refine goes_ Tryd.func47 (by kernel_rfl) rfl #[.pointer (some ⟨g, 0, none⟩), .pointer (some ⟨bF, q * 4, none⟩), .int .i64 (M : Int), .bool lb] (by rfl) rfl rfl (by simp only [List.map_toArray, List.map_cons, List.map_nil]; rfl) ?_
      with_reducible refine HIe.out.mono ?_
      rintro e_ wm ⟨⟨v5, v6, rfl, h5, h6⟩, ⟨a3, hA⟩, hZ, hK⟩
      obtain ⟨A5, c5, rfl⟩ := Kd.R_slice h5
      obtain ⟨A6, c6, rfl⟩ := Kd.R_slice h6
      obtain ⟨n5, hn5⟩ : ∃ n5, n5 = x.1.f5.length := ⟨_, rfl⟩
      obtain ⟨n6, hn6⟩ : ∃ n6, n6 = x.1.f6.length := ⟨_, rfl⟩
      rw [← hn5] at h5
      rw [← hn6] at h6
      rw [← hn5, ← hn6]
      have H5 := Az.mk h5
      have H6 := Az.mk h6
      have HAm := Az.mk hA
      have HZm := Az.mk hZ
      have HKm2 := Az.mk hK
      have HFm : Az (kH.R 46 wm wp.heap.size (fun k => wp.heap.size ≤ k) (.slice (some ⟨bF, 0, none⟩) N cF) hs2) := ⟨Kd.R_keep (Kd.R_drew HFk.out) hK (fun k hk => by have := HGp.out; omega)⟩
      have HXm : Az (k50.R 50 wm wp.heap.size (fun k => wp.heap.size ≤ k) (.slice Aq k3 cq) t.2.2) := ⟨Kd.R_keep (Kd.R_drew HXk.out) hK (fun k hk => by have := HGp.out; omega)⟩
      have HQm : Az (CodeQ wm wp.heap.size hs2 s.2.2 q (.slice Aq k3 cq)) := ⟨(HQk.out.below (below_drew (Below.refl _ _))).keep hK HGp.out⟩
      have HSm : Az (kI.R 3 wm wp.heap.size (fun k => wp.heap.size ≤ k) (.slice (some ⟨bS, 0, none⟩) N cS) (szOf bs N)) := ⟨Kd.R_keep (Kd.R_drew HSk.out) hK (fun k hk => by have := HGp.out; omega)⟩
      have hs0m : wm.cell? ⟨bF, q * 4 + 3, none⟩ = some (.slice Aq k3 cq) := by have := (kH_at HFm.out q HLt.out).2.2.2.1; rwa [HCk.out] at this
      have hszm : wm.cell? ⟨bS, q, none⟩ = some (.int .i64 (M : Int)) := by have := sz_cell HSm.out q HLt.out; rwa [← HMv.out] at this
      have HWm : Az (wp.heap.size ≤ wm.heap.size) := ⟨Nat.le_trans HKk.out.1 hK.1⟩
      clear h5 h6 hA hZ hK hn5 hn6
      refine ⟨_, rfl, ?_⟩
      refine hK.out _ _ ⟨hs0m, hszm⟩ (fun hHeld => ?_)
      clear hK K
      refine norm_ (a' := ?_) ?_ ?_
      rotate_left
      ·show Act.put _ (some 113) _ = _
       simp only [Act.put, pn, i64_w, i32_w]
       rfl
      refine one_ (i := 19) (N := some 114) #[true, true, true, true, true, true, true, true, true, true, true, true, true, true, true, true, true, true, true, true, false, false, false, false] rfl rfl (one_of HT_.out (by kernel_rfl)) (by decide) (fun K hK => ?_)
      refine value_ (w1 := ?_) (v := ?_) (by rfl) rfl ?_ ?_
      rotate_left 2
      ·go_simp
       constructor
       ·rfl
       ·rfl
      show K _ (World.alloc wm (Obj.cells #[.int .i64 x.1.f0, .int .i64 x.1.f1, .int .i64 x.1.f2, .int .i64 x.1.f3, .int .i64 x.1.f4, .slice A5 n5 c5, .slice A6 n6 c6] 50))
      refine hK.out _ _ ⟨cZ (lZ (Below.refl _ _) _) hs0m, cZ (lZ (Below.refl _ _) _) hszm⟩ (fun hHeld => ?_)
      clear hK K
      refine norm_ (a' := ?_) ?_ ?_
      rotate_left
      ·show Act.put _ (some 114) _ = _
       simp only [Act.put, pn, i64_w, i32_w]
       rfl
      refine one_ (i := 20) (N := some 115) #[true, true, true, true, true, true, true, true, true, true, true, true, true, true, true, true, true, true, true, true, true, false, false, false] rfl rfl (one_of HT_.out (by kernel_rfl)) (by decide) (fun K hK => ?_)
      refine Kd.R_append_step k50 (w0 := wm) wp.heap.size (by rfl) (.tmp 99) (.tmp 114) 44 50 (.agg #[.int .i64 0, .int .i64 0, .int .i64 0, .int .i64 0, .int .i64 0, .slice none 0 0, .slice none 0 0]) 88 (by rfl) Tryd.underlying44 info50 (by rfl) (by decide) (by omega) (.slice Aq k3 cq) t.2.2 x.1 [.int .i64 x.1.f0, .int .i64 x.1.f1, .int .i64 x.1.f2, .int .i64 x.1.f3, .int .i64 x.1.f4, .slice A5 n5 c5, .slice A6 n6 c6] (fun k => wp.heap.size ≤ k) (fun k => wr.heap.size ≤ k) (by rfl) (by rfl) ?aP ?aK ?aF ?aO ?aB ?aS ?aL ?_
      case aP => exact k50_mkM wm wp.heap.size (fun k => wr.heap.size ≤ k) x.1 (Kd.R_lower H5.out HKk.out.1) (Kd.R_lower H6.out HKk.out.1)
      case aK => exact fun k hk => ⟨Nat.le_trans HKk.out.1 hk, fun e => by have := HHX.out k e.symm; omega⟩
      case aF => exact fun k hk => Nat.le_trans HWm.out hk
      case aO => exact HXm.out
      case aB => exact Below.refl _ _
      case aS => exact HWm.out
      case aL => rw [HIk.out.1]; have := HLt3.out; have := HMr.out; omega
      intro v7 w7 ho hb hgr hat
      have FA := Az.mk (blk_grown (show wm.heap[g]? = _ from HAm.out) hgr (Kd.R_ne HXm.out (show wm.heap[g]? = _ from HAm.out) (by decide)))
      have FT := KeepT.grown (ts := [50]) (g := g) HXm.out (by simp) hgr
      have FF : Az (kH.R 46 w7 wp.heap.size (fun k => wp.heap.size ≤ k) (.slice (some ⟨bF, 0, none⟩) N cF) hs2) := ⟨FT.row HFm.out (by decide) (fun k hk => by have := HGp.out; omega)⟩
      have FS : Az (kI.R 3 w7 wp.heap.size (fun k => wp.heap.size ≤ k) (.slice (some ⟨bS, 0, none⟩) N cS) (szOf bs N)) := ⟨FT.row HSm.out (by decide) (fun k hk => by have := HGp.out; omega)⟩
      have FQ := Az.mk (HQm.out.after hgr hat)
      obtain ⟨A7, c7, rfl⟩ := Kd.R_slice ho
      rw [List.length_append, HIk.out.1, List.length_singleton] at ho FQ
      have FR := Az.mk ho
      have FB := Az.mk hb
      rw [List.length_append, HIk.out.1, List.length_singleton]
      have hs07 : w7.cell? ⟨bF, q * 4 + 3, none⟩ = some (.slice Aq k3 cq) := by have := (kH_at FF.out q HLt.out).2.2.2.1; rwa [HCk.out] at this
      have hsz7 : w7.cell? ⟨bS, q, none⟩ = some (.int .i64 (M : Int)) := by have := sz_cell FS.out q HLt.out; rwa [← HMv.out] at this
      clear ho hb hgr hat FT
      refine hK.out _ _ ⟨hs07, hsz7⟩ (fun hHeld => ?_)
      clear hK K
      refine norm_ (a' := ?_) ?_ ?_
      rotate_left
      ·show Act.put _ (some 115) _ = _
       simp only [Act.put, pn, i64_w, i32_w]
       rfl
      refine pure_ (i := 21) (N := some 116) (v := ?_) (a' := ?_) #[true, true, true, true, true, true, true, true, true, true, true, true, true, true, true, true, true, true, true, true, true, true, false, false] rfl rfl (any_of HT_.out (by kernel_rfl)) (fun _ _ _ h => DefQ.put h) (Or.inl ⟨by rfl, ?_⟩) ?_ ?_
      rotate_left
      ·intro w'
       go_simp
       with_reducible rfl
      rotate_left
      ·simp only [Act.put, pn, i64_w, i32_w]
       rfl
      refine pure_ (i := 22) (N := some 117) (v := ?_) (a' := ?_) #[true, true, true, true, true, true, true, true, true, true, true, true, true, true, true, true, true, true, true, true, true, true, true, false] rfl rfl (any_of HT_.out (by kernel_rfl)) (fun _ _ _ h => DefQ.put h) (Or.inl ⟨by rfl, ?_⟩) ?_ ?_
      rotate_left
      ·intro w'
       go_simp
       with_reducible rfl
      rotate_left
      ·simp only [Act.put, pn, i64_w, i32_w]
       rfl
      refine last_ (i := 23) (N := none) #[true, true, true, true, true, true, true, true, true, true, true, true, true, true, true, true, true, true, true, true, true, true, true, true] rfl rfl (one_of HT_.out (by kernel_rfl)) (by decide) (fun K hK => ?_)
      have hfz := (kH_at FF.out q HLt.out).2.2.2.2
      refine skip_ (w1 := ?_) (by rfl) rfl ?_ ?_
      rotate_left
      ·go_simp
       rfl
      clear hfz
      refine hK.out _ _ ?_
      clear hK K
      refine done_ (done_of HT_.out (by kernel_rfl)) ?_
      refine (show DefQ _ Exit.normal _ _ from ?_)
      unfold DefQ
      clear hHeld HT_ HW_ hs0 hsz
      have H46 : ∃ ds, w7.heap[bF]? = some (Obj.cells ds 46 (0, 0)) := Kd.R_typed FF.out bF (by simp [Value.ownBlock])
      obtain ⟨ds, hds⟩ := H46
      have HHl3 : Az (q < hs2.length) := ⟨by rw [HHl2.out]; exact HLt.out⟩
      have HA8 : Az (AskW (w7.setCell ⟨bF, q * 4 + 3, none⟩ (.slice A7 (k3 + 1) c7)) g 80 (rdR A bs.length c (x.2.1 : Int)) G (some ⟨bF, 0, none⟩) N cF B x.2.2 a3) := ⟨(Below.heap_setCell w7 ⟨bF, q * 4 + 3, none⟩ _ g (fun e => HbF.out e.symm)).trans FA.out⟩
      obtain ⟨hv, hhv⟩ : ∃ hv : HV, hv = ⟨(hs2.getD q hv0).P, (hs2.getD q hv0).R, (hs2.getD q hv0).V, .slice A7 (k3 + 1) c7, rfl⟩ := ⟨_, rfl⟩
      have HF8 : Az (kH.R 46 (w7.setCell ⟨bF, q * 4 + 3, none⟩ (.slice A7 (k3 + 1) c7)) wp.heap.size (fun k => wp.heap.size ≤ k) (.slice (some ⟨bF, 0, none⟩) N cF) (hs2.set q hv)) := ⟨by rw [hhv]; exact kH_set FF.out q HLt.out _ rfl⟩
      have HC8 : Az (((hs2.set q hv).getD q hv0).c = .slice A7 (k3 + 1) c7) := ⟨by rw [set_getD_self hs2 q hv HHl3.out, hhv]⟩
      have HE8 : Az (fsOf (hs2.set q hv) = fs) := ⟨by rw [hhv]; exact (fsOf_set hs2 q (.slice A7 (k3 + 1) c7) rfl).trans HEk.out⟩
      have HN8 : Az (∀ i, q + 1 ≤ i → i < N → ((hs2.set q hv).getD i hv0).c = .slice none 0 0) := ⟨fun i h1 h2 => by rw [set_getD hs2 q i hv (by omega)]; exact HNk.out i h1 h2⟩
      have HQ8 : Az (CodeQ (w7.setCell ⟨bF, q * 4 + 3, none⟩ (.slice A7 (k3 + 1) c7)) wp.heap.size (hs2.set q hv) s.2.2 q (.slice A7 (k3 + 1) c7)) := ⟨CodeQ.put (CodeQ.set FQ.out hds (by decide)) q (Nat.le_refl q)⟩
      have HX8 : Az (k50.R 50 (w7.setCell ⟨bF, q * 4 + 3, none⟩ (.slice A7 (k3 + 1) c7)) wp.heap.size (fun k => wp.heap.size ≤ k) (.slice A7 (k3 + 1) c7) (t.2.2 ++ [x.1])) := ⟨Kd.R_set FR.out hds (by decide) _ _⟩
      have HS8 : Az (kI.R 3 (w7.setCell ⟨bF, q * 4 + 3, none⟩ (.slice A7 (k3 + 1) c7)) wp.heap.size (fun k => wp.heap.size ≤ k) (.slice (some ⟨bS, 0, none⟩) N cS) (szOf bs N)) := ⟨Kd.R_set FS.out hds (by decide) _ _⟩
      have HWp : Az (w.heap.size ≤ wp.heap.size) := ⟨by have := G15.out; have := HGp.out; omega⟩
      have HZ8 : Az (Below w.heap.size w (w7.setCell ⟨bF, q * 4 + 3, none⟩ (.slice A7 (k3 + 1) c7))) := ⟨sZ (HZm.out.trans (FB.out.mono HWp.out)) (Nat.le_trans HWp.out HbFp.out)⟩
      have HK8 : Az (KeepBut wp (w7.setCell ⟨bF, q * 4 + 3, none⟩ (.slice A7 (k3 + 1) c7)) g none) := ⟨⟨by have h1 := HWm.out; have h2 := FB.out.size; simpa [World.setCell] using Nat.le_trans h1 h2, fun i hi hg hr => (Below.heap_setCell w7 ⟨bF, q * 4 + 3, none⟩ _ i (fun e => by have := HbFp.out; have e2 : i = bF := e; omega)).trans ((FB.out.block i hi).trans ((KeepBut.trans HKk.out (show KeepBut wr wm g none from HKm2.out) (.inl rfl)).2 i hi hg hr))⟩⟩
      have HI8 : Az ((t.2.2 ++ [x.1]).length = k3 + 1 ∧ x.2.1 ≤ bs.length ∧ 0 ≤ x.2.2 ∧ x.2.2 < 1048576) := ⟨by rw [List.length_append, HIk.out.1]; rfl, HIo.out x rfl⟩
      have HR8 : Az (runE (codeStep G fs R V (M : Int) bs) (s.1, s.2.1, []) (k3 + 1) = .ok (x.2.1, x.2.2, t.2.2 ++ [x.1])) := ⟨by rw [HStk.out, HCs.out]⟩
      obtain ⟨w8, hw8⟩ : ∃ w8, w8 = (w7.setCell ⟨bF, q * 4 + 3, none⟩ (.slice A7 (k3 + 1) c7)) := ⟨_, rfl⟩
      rw [← hw8] at HA8 HF8 HQ8 HX8 HS8 HZ8 HK8 ⊢
      have hwp2 := HW2.out
      clear hw8 FA FF FS FQ FR FB hds hhv HAk HFk HCk HEk HNk HQk HXk HSk HZk HKk
      go_wp2_with fail
      go_roundw
      case rel => exact ⟨k3 + 1, (x.2.1, x.2.2, t.2.2 ++ [x.1]), .slice A7 (k3 + 1) c7, hs2.set q hv, a3, Nat.succ_le_of_lt HLt3.out, by go_num, HR8, HA8, HF8, HC8, HE8, HN8, HQ8, HX8, HS8, HI8, HZ8, HK8⟩
      case measure => rw [hwp2]; exact Nat.sub_lt_sub_left (show k3 < M from HLt3.out) (show k3 < k3 + 1 from Nat.lt_succ_self k3)
  have hwp : wrap64 ((q : Int) + 1) = (q : Int) + 1 := wrap_in (by have := HNr.out; omega) (by have := HNr.out; omega)
  have q0 : (0 : Int) ≤ (q : Int) := Int.natCast_nonneg q
  have q1 : (q : Int) < (N : Int) := by omega
  obtain ⟨⟨l0, l1⟩, hp9, _⟩ := heads_run HBy.out q l HRn.out
  obtain ⟨p, hp⟩ : ∃ p, p = 9 + 5 * q := ⟨_, rfl⟩
  have HPp := Az.mk hp
  have HHd := Az.mk (head_rd g G AF cF B l a A c bs p w wp wr (hsOf bs q) HZq.out G15.out HGp.out HKq.out (by rw [hsOf_len, hp]; exact HAq.out) HBs.out (by rw [hp]; exact hp9 L9.out) HCb.out HBy.out l0 l1 (by rw [hsOf_len]; exact HFq.out) (by rw [hsOf_len]; have := HNr.out; omega))
  clear hp hp9 l0 l1
  go_wp2_with fail
  refine HHd.out.mono ?_
  rintro e w' ⟨he, hok, hZ, hK, hT⟩
  have HZr := Az.mk hZ
  have HKr := Az.mk hK
  have HSr : Az (kI.R 3 w' wp.heap.size (fun k => wp.heap.size ≤ k) u8 (szOf bs q)) := ⟨hT.row HSq.out (by decide) (fun k hk => by have := HGp.out; omega)⟩
  have HStp : Az (runE (headStep bs) 0 (q + 1) = if p + 5 ≤ bs.length then (if hvE bs p l = 0 then .ok (l + (hvOf bs p).V) else .error (hvE bs p l, ((p : Nat) : Int))) else .error (11, bs.length)) := ⟨by rw [runE_next HRn.out, HPp.out]; rfl⟩
  clear hZ hK hT HHd HAq HFq HSq HZq HKq
  obtain ⟨w4, rfl⟩ : ∃ w4, w4 = w' := ⟨_, rfl⟩
  by_cases h5 : p + 5 ≤ bs.length
  rotate_left
  ·rw [if_neg h5] at he
   subst he
   have HE : Az (decR bs = .error (11, bs.length)) := ⟨by have hr := runE_err (show runE (headStep bs) 0 (q + 1) = .error (11, bs.length) from by rw [HStp.out, if_neg h5]) N (by omega); unfold decR; rw [if_pos HMg.out, if_pos (show 6 ≤ bs.length by have := L6.out; omega), if_pos (show 7 ≤ bs.length by have := L7.out; omega), ← HGv.out, if_pos H1.out, if_pos (show 9 ≤ bs.length by have := L9.out; omega), HCn.out, if_pos H2.out, Int.toNat_natCast, hr]⟩
   have Q2 := Az.mk (HKr.out.blk P2.out N2.out (by simp))
   have Q3 := Az.mk (HKr.out.blk P3.out N3.out (by simp))
   have Q4 := Az.mk (HKr.out.blk P4.out N4.out (by simp))
   have QZ := Az.mk (HZr.out)
   go_wp2_with fail
   refine leaves_cons (f := 41) (args := #[.pointer (some ⟨g2, 0, none⟩), .pointer (some ⟨g3, 0, none⟩), .pointer (some ⟨g4, 0, none⟩)]) (by simp) (by simp [go_sem]) ?_
   refine (catchD_stop g2 g3 g4 0 0 (11) (bs.length) (.slice none 0 0) w4 Q2.out Q3.out ⟨0, Q4.out⟩).mono ?_
   rintro e u' w'' ⟨rfl, rfl, hst⟩
   have r0 : w''.cell? ⟨g2, 0, none⟩ = some (.int .i64 0) := (bZ hst.1 0).trans rfl
   have r1 : w''.cell? ⟨g2, 1, none⟩ = some (.slice none 0 0) := (bZ hst.1 1).trans rfl
   have r2 : w''.cell? ⟨g3, 0, none⟩ = some (.int .i64 (11)) := (bZ hst.2.1 0).trans rfl
   have r3 : w''.cell? ⟨g4, 0, none⟩ = some (.int .i64 (bs.length)) := (bZ hst.2.2.1 0).trans rfl
   have HPo : Az (DecPost w bs (.returned (.tuple #[.agg #[.int .i64 0, .slice none 0 0], .int .i64 (11), .int .i64 (bs.length)])) w'') := ⟨by unfold DecPost decOut; rw [HE.out]; exact ⟨.slice none 0 0, rfl, Kd.R_nil _ _ _ _ _, hst.2.2.2 w QZ.out G2.out G3.out G4.out⟩⟩
   clear hst Q2 Q3 Q4 QZ HE
   simp [Leaves, settle, results, Tryd.results24, go_sem, r0, r1, r2, r3]
   exact HPo.out
  rw [if_pos h5] at he
  have H5 := Az.mk h5
  clear h5
  obtain ⟨er, her⟩ : ∃ er, er = hvE bs p l := ⟨_, rfl⟩
  have HEr := Az.mk her
  rw [← her] at he hok HStp
  clear her
  by_cases h1 : er = 0
  rotate_left
  ·rw [if_neg h1] at he
   subst he
   have HE : Az (decR bs = .error (er, (p : Int))) := ⟨by have hr := runE_err (show runE (headStep bs) 0 (q + 1) = .error (er, ((p : Nat) : Int)) from by rw [HStp.out, if_pos H5.out, if_neg h1]) N (by omega); unfold decR; rw [if_pos HMg.out, if_pos (show 6 ≤ bs.length by have := L6.out; omega), if_pos (show 7 ≤ bs.length by have := L7.out; omega), ← HGv.out, if_pos H1.out, if_pos (show 9 ≤ bs.length by have := L9.out; omega), HCn.out, if_pos H2.out, Int.toNat_natCast, hr]⟩
   have Q2 := Az.mk (HKr.out.blk P2.out N2.out (by simp))
   have Q3 := Az.mk (HKr.out.blk P3.out N3.out (by simp))
   have Q4 := Az.mk (HKr.out.blk P4.out N4.out (by simp))
   have QZ := Az.mk (HZr.out)
   go_wp2_with fail
   refine leaves_cons (f := 41) (args := #[.pointer (some ⟨g2, 0, none⟩), .pointer (some ⟨g3, 0, none⟩), .pointer (some ⟨g4, 0, none⟩)]) (by simp) (by simp [go_sem]) ?_
   refine (catchD_stop g2 g3 g4 0 0 (er) ((p : Int)) (.slice none 0 0) w4 Q2.out Q3.out ⟨0, Q4.out⟩).mono ?_
   rintro e u' w'' ⟨rfl, rfl, hst⟩
   have r0 : w''.cell? ⟨g2, 0, none⟩ = some (.int .i64 0) := (bZ hst.1 0).trans rfl
   have r1 : w''.cell? ⟨g2, 1, none⟩ = some (.slice none 0 0) := (bZ hst.1 1).trans rfl
   have r2 : w''.cell? ⟨g3, 0, none⟩ = some (.int .i64 (er)) := (bZ hst.2.1 0).trans rfl
   have r3 : w''.cell? ⟨g4, 0, none⟩ = some (.int .i64 ((p : Int))) := (bZ hst.2.2.1 0).trans rfl
   have HPo : Az (DecPost w bs (.returned (.tuple #[.agg #[.int .i64 0, .slice none 0 0], .int .i64 (er), .int .i64 ((p : Int))])) w'') := ⟨by unfold DecPost decOut; rw [HE.out]; exact ⟨.slice none 0 0, rfl, Kd.R_nil _ _ _ _ _, hst.2.2.2 w QZ.out G2.out G3.out G4.out⟩⟩
   clear hst Q2 Q3 Q4 QZ HE
   simp [Leaves, settle, results, Tryd.results24, go_sem, r0, r1, r2, r3]
   exact HPo.out
  rw [if_pos h1] at he
  subst he
  obtain ⟨A2, c2, hA2, hF2⟩ := hok H5.out h1
  rw [hsOf_len] at hA2 hF2
  have HRn2 : Az (runE (headStep bs) 0 (q + 1) = .ok (l + (hvOf bs p).V)) := ⟨by rw [HStp.out, if_pos H5.out, if_pos h1]⟩
  have HA2 := Az.mk hA2
  have HF2 : Az (kH.R 46 w4 wp.heap.size (fun k => wp.heap.size ≤ k) (.slice A2 (q + 1) c2) (hsOf bs (q + 1))) := ⟨by rw [hsOf_next, ← HPp.out]; exact hF2⟩
  clear hA2 hF2 hok HStp h1 HEr
  obtain ⟨m, hm2⟩ : ∃ m, m = hvN bs p := ⟨_, rfl⟩
  have HMv := Az.mk hm2
  rw [← hm2]
  clear hm2
  go_wp2_with ((with_reducible refine gate_builtin (b := .append) (xs := #[.tmp 64, .tmp 67]) rfl ?_); at_builtin; refine Kd.R_append kI (w0 := w4) wp.heap.size rfl (.tmp 64) (.tmp 67) 48 3 (.int .i64 0) 8 rfl Tryd.underlying48 info3 rfl (by decide) (by omega) u8 (szOf bs q) m [.int .i64 m] (fun k => wp.heap.size ≤ k) (fun _ => False) rfl rfl ?aP (fun _ hk => hk.elim) ?aF ?aO ?aB ?aS ?aL ?_; (case aP => exact rfl); (case aF => exact fun k hk => Nat.le_trans HKr.out.1 hk); (case aO => exact HSr.out); (case aB => exact Below.refl _ _); (case aS => exact HKr.out.1); (case aL => rw [szOf_len]; have := HNr.out; omega); intro v1 wv ho hb hgr hat; have FA := Az.mk (blk_grown (show w4.heap[g]? = _ from HA2.out) hgr (Kd.R_ne HSr.out (show w4.heap[g]? = _ from HA2.out) (by decide))); have FT := Az.mk (KeepT.grown (ts := [3]) (g := g) HSr.out (by simp) hgr); have FR := Az.mk ho; have FB := Az.mk hb; clear ho hb hgr hat)
  have HWp : Az (w.heap.size ≤ wp.heap.size) := ⟨by have := G15.out; have := HGp.out; omega⟩
  have HA3 : Az (AskW wv g 80 (rdR A bs.length c ((9 + 5 * (q + 1) : Nat) : Int)) G A2 (q + 1) c2 B (l + (hvOf bs p).V) (p : Int)) := ⟨by rw [show 9 + 5 * (q + 1) = p + 5 from by have := HPp.out; omega]; exact FA.out⟩
  have HF3 : Az (kH.R 46 wv wp.heap.size (fun k => wp.heap.size ≤ k) (.slice A2 (q + 1) c2) (hsOf bs (q + 1))) := ⟨FT.out.row HF2.out (by decide) (fun k hk => by have := HGp.out; omega)⟩
  have HS3 : Az (kI.R 3 wv wp.heap.size (fun k => wp.heap.size ≤ k) v1 (szOf bs (q + 1))) := ⟨by rw [szOf_next, ← HPp.out, ← HMv.out]; exact FR.out⟩
  have HZ3 : Az (Below w.heap.size w wv) := ⟨HZr.out.trans (FB.out.mono HWp.out)⟩
  have HK3 : Az (KeepBut wp wv g none) := ⟨⟨Nat.le_trans HKr.out.1 FB.out.size, fun i hi hg hr => (FB.out.block i hi).trans (HKr.out.2 i hi hg hr)⟩⟩
  clear HA2 HF2 HSr HZr HKr FA FT FR FB
  go_roundw
  case rel => exact ⟨q + 1, l + (hvOf bs p).V, A2, c2, (p : Int), by omega, by go_num, HRn2, HA3, HF3, HS3, HZ3, HK3⟩
  case measure => rw [hwp]; exact Nat.sub_lt_sub_left (show q < N from hlt) (show q < q + 1 from Nat.lt_succ_self q)
end Go.Proofs.YteonppgdmhakoaaDoor.PC
namespace Go.Proofs.YteonppgdmhakoaaDoor.PC
open Go.RowKit Go.Proofs.YteonppgdmhakoaaDoorW.PrintWords Go.Proofs.YteonppgdmhakoaaDoorW.PrintLast Go.Proofs.YteonppgdmhakoaaDoorW.PrintMore
set_option linter.unusedVariables false
set_option linter.unusedSimpArgs false
def code_Encode.f (a0_0 : Int) (l0_1 : List S46) : Option (List Int × Int) := some (encOut a0_0 l0_1, firstE a0_0 l0_1)
theorem code_Encode.calls (a0_0 : Int) (A0_1 : Option Addr) (c0_1 : Nat) (l0_1 : List (S46)) (r1 : List Int) (r2 : Int) (w : World) (hr0_1 : Kd.C k46 w A0_1 l0_1.length l0_1) (hc0_1 : l0_1.length ≤ c0_1) (h : code_Encode.f a0_0 l0_1 = some (r1, r2)) (hT : Tab w) :
  Calls Tryd.prog 20 #[.agg #[.int .i64 a0_0, .slice A0_1 l0_1.length c0_1]] w fun e w' => ∃ v1_ : Value, e = .returned (.tuple #[v1_, .int .i64 r2]) ∧ Kd.R (Kd.int .u8) 5 w' w.heap.size (fun _ => True) v1_ r1 ∧ Below w.heap.size w w' := by
 unfold code_Encode.f at h
 injection h with h
 injection h with h1 h2
 subst h1 h2
 exact enc_any a0_0 A0_1 c0_1 l0_1 w hr0_1 hT
def code_Decode.f (l0 : List Int) : Option (Int × List S46 × Int × Int) := if (l0.all fun x => decide (0 ≤ x ∧ x ≤ 255)) = true then some (decOut l0) else none
theorem code_Decode.calls (A0 : Option Addr) (c0 : Nat) (l0 : List Int) (r1 : Int) (r2 : List (S46)) (r3 r4 : Int) (w : World) (hr0 : Kd.C (Kd.int .u8) w A0 l0.length l0) (hc0 : l0.length ≤ c0) (h : code_Decode.f l0 = some (r1, r2, r3, r4)) (hT : Tab w) :
  Calls Tryd.prog 24 #[.slice A0 l0.length c0] w fun e w' => ∃ v1_ : Value, e = .returned (.tuple #[.agg #[.int .i64 r1, v1_], .int .i64 r3, .int .i64 r4]) ∧ Kd.R k46 46 w' w.heap.size (fun _ => True) v1_ r2 ∧ Below w.heap.size w w' := by
 unfold code_Decode.f at h
 by_cases hl : (l0.all fun x => decide (0 ≤ x ∧ x ≤ 255)) = true
 ·rw [if_pos hl] at h
  injection h with h
  refine (dec_any A0 c0 l0 w hr0 hc0 (fun x hx => by rw [List.all_eq_true] at hl; simpa using hl x hx) hT).mono ?_
  rintro e w' ⟨v, he, hR, hB⟩
  rw [h] at he hR
  exact ⟨v, he, Kd.R_mono hR (fun _ _ => trivial), hB⟩
 ·rw [if_neg hl] at h
  cases h
end Go.Proofs.YteonppgdmhakoaaDoor.PC
namespace Go.Proofs.YteonppgdmhakoaaDoor.PC
open Go.RowKit Go.Proofs.YteonppgdmhakoaaDoorW.PrintWords Go.Proofs.YteonppgdmhakoaaDoorW.PrintLast Go.Proofs.YteonppgdmhakoaaDoorW.PrintMore
attribute [local go_sem] max2_int min2_int max_two min_two max_three min_three max_four min_four
set_option linter.unusedVariables false
set_option linter.unusedSimpArgs false
def fuguelaw01_works.f (k : Nat)  : Option (Bool) := (fuguelaw01_least.f).bind fun bt132 => ((code_Encode.f bt132.1 bt132.2).bind fun bt136 => ((code_Decode.f bt136.1).bind fun bt140 => ((fuguelaw01_least.f).bind fun bt147 => ((fugueref00_EqProgram.f k bt140.1 bt140.2.1 bt147.1 bt147.2).bind fun t151 => ((fuguelaw01_least.f).bind fun bt152 => ((code_Check.f bt152.1 bt152.2).bind fun t156 => (if t156 = 0 then (if bt136.2 = 0 then (if bt140.2.2.1 = 0 then (if bt140.2.2.2 = 0 then (if (bt136.1.length : Int) = 16 then (if t151 = true then ((fuguelaw01_least.f).bind fun bt157 => ((code_Locations.f k bt157.1 bt157.2).bind fun t161 => (some (t161 == 1)))) else (some false)) else (some false)) else (some false)) else (some false)) else (some false)) else (some false))))))))
theorem fuguelaw01_works.mono : ∀ k, LeO (fuguelaw01_works.f k ) (fuguelaw01_works.f (k + 1) ) := by
 intro  k
 unfold fuguelaw01_works.f
 repeat' first
   | (with_reducible exact code_Locations.mono _ _ _)
   | (with_reducible exact fugueref00_EqProgram.mono _ _ _ _ _)
   | (with_reducible exact LeO.refl _)
   | (with_reducible exact LeO.none _)
   | (with_reducible refine LeO.ite ?_ ?_)
   | (with_reducible refine LeO.bind ?_ (fun _ => ?_))
   | exact code_Locations.mono _ _ _
   | exact fugueref00_EqProgram.mono _ _ _ _ _
   | exact LeO.none _
   | refine LeO.ite ?_ ?_
   | refine LeO.bind ?_ (fun _ => ?_)
set_option maxHeartbeats 8000000 in
set_option maxRecDepth 100000 in
theorem works_yes (k : Nat)  (r : Bool) (w : World) (h : fuguelaw01_works.f k  = some r) (hr_ : r = true) (hT_ : Tab w) :
  Calls Tryd.prog 10 #[] w fun e w' => e = .returned (.bool r) ∧ Below w.heap.size w w' := by
 have hu24 := Tryd.underlying24
 have HB := Az.mk (Below.refl w.heap.size w)
 have HTab := Az.mk hT_
 have H : ((fuguelaw01_least.f).bind fun bt132 => ((code_Encode.f bt132.1 bt132.2).bind fun bt136 => ((code_Decode.f bt136.1).bind fun bt140 => ((fuguelaw01_least.f).bind fun bt147 => ((fugueref00_EqProgram.f k bt140.1 bt140.2.1 bt147.1 bt147.2).bind fun t151 => ((fuguelaw01_least.f).bind fun bt152 => ((code_Check.f bt152.1 bt152.2).bind fun t156 => (if t156 = 0 then (if bt136.2 = 0 then (if bt140.2.2.1 = 0 then (if bt140.2.2.2 = 0 then (if (bt136.1.length : Int) = 16 then (if t151 = true then ((fuguelaw01_least.f).bind fun bt157 => ((code_Locations.f k bt157.1 bt157.2).bind fun t161 => (some (t161 == 1)))) else (some false)) else (some false)) else (some false)) else (some false)) else (some false)) else (some false))))))))) = some r := h
 clear h
 replace H := Option.bind_eq_some_iff.mp H
 obtain ⟨⟨t132, t133⟩, A10, H⟩ := H
 replace H : ((code_Encode.f t132 t133).bind fun bt136 => ((code_Decode.f bt136.1).bind fun bt140 => ((fuguelaw01_least.f).bind fun bt147 => ((fugueref00_EqProgram.f k bt140.1 bt140.2.1 bt147.1 bt147.2).bind fun t151 => ((fuguelaw01_least.f).bind fun bt152 => ((code_Check.f bt152.1 bt152.2).bind fun t156 => (if t156 = 0 then (if bt136.2 = 0 then (if bt140.2.2.1 = 0 then (if bt140.2.2.2 = 0 then (if (bt136.1.length : Int) = 16 then (if t151 = true then ((fuguelaw01_least.f).bind fun bt157 => ((code_Locations.f k bt157.1 bt157.2).bind fun t161 => (some (t161 == 1)))) else (some false)) else (some false)) else (some false)) else (some false)) else (some false)) else (some false)))))))) = some r := H
 have A1 := Az.mk A10
 clear A10
 replace H := Option.bind_eq_some_iff.mp H
 obtain ⟨⟨t136, t139⟩, A20, H⟩ := H
 replace H : ((code_Decode.f t136).bind fun bt140 => ((fuguelaw01_least.f).bind fun bt147 => ((fugueref00_EqProgram.f k bt140.1 bt140.2.1 bt147.1 bt147.2).bind fun t151 => ((fuguelaw01_least.f).bind fun bt152 => ((code_Check.f bt152.1 bt152.2).bind fun t156 => (if t156 = 0 then (if t139 = 0 then (if bt140.2.2.1 = 0 then (if bt140.2.2.2 = 0 then (if (t136.length : Int) = 16 then (if t151 = true then ((fuguelaw01_least.f).bind fun bt157 => ((code_Locations.f k bt157.1 bt157.2).bind fun t161 => (some (t161 == 1)))) else (some false)) else (some false)) else (some false)) else (some false)) else (some false)) else (some false))))))) = some r := H
 have A2 := Az.mk A20
 clear A20
 replace H := Option.bind_eq_some_iff.mp H
 obtain ⟨⟨t140, t141, t144, t145⟩, A30, H⟩ := H
 replace H : ((fuguelaw01_least.f).bind fun bt147 => ((fugueref00_EqProgram.f k t140 t141 bt147.1 bt147.2).bind fun t151 => ((fuguelaw01_least.f).bind fun bt152 => ((code_Check.f bt152.1 bt152.2).bind fun t156 => (if t156 = 0 then (if t139 = 0 then (if t144 = 0 then (if t145 = 0 then (if (t136.length : Int) = 16 then (if t151 = true then ((fuguelaw01_least.f).bind fun bt157 => ((code_Locations.f k bt157.1 bt157.2).bind fun t161 => (some (t161 == 1)))) else (some false)) else (some false)) else (some false)) else (some false)) else (some false)) else (some false)))))) = some r := H
 have A3 := Az.mk A30
 clear A30
 replace H := Option.bind_eq_some_iff.mp H
 obtain ⟨⟨t147, t148⟩, A40, H⟩ := H
 replace H : ((fugueref00_EqProgram.f k t140 t141 t147 t148).bind fun t151 => ((fuguelaw01_least.f).bind fun bt152 => ((code_Check.f bt152.1 bt152.2).bind fun t156 => (if t156 = 0 then (if t139 = 0 then (if t144 = 0 then (if t145 = 0 then (if (t136.length : Int) = 16 then (if t151 = true then ((fuguelaw01_least.f).bind fun bt157 => ((code_Locations.f k bt157.1 bt157.2).bind fun t161 => (some (t161 == 1)))) else (some false)) else (some false)) else (some false)) else (some false)) else (some false)) else (some false))))) = some r := H
 have A4 := Az.mk A40
 clear A40
 replace H := Option.bind_eq_some_iff.mp H
 obtain ⟨t151, A50, H⟩ := H
 replace H : ((fuguelaw01_least.f).bind fun bt152 => ((code_Check.f bt152.1 bt152.2).bind fun t156 => (if t156 = 0 then (if t139 = 0 then (if t144 = 0 then (if t145 = 0 then (if (t136.length : Int) = 16 then (if t151 = true then ((fuguelaw01_least.f).bind fun bt157 => ((code_Locations.f k bt157.1 bt157.2).bind fun t161 => (some (t161 == 1)))) else (some false)) else (some false)) else (some false)) else (some false)) else (some false)) else (some false)))) = some r := H
 have A5 := Az.mk A50
 clear A50
 replace H := Option.bind_eq_some_iff.mp H
 obtain ⟨⟨t152, t153⟩, A60, H⟩ := H
 replace H : ((code_Check.f t152 t153).bind fun t156 => (if t156 = 0 then (if t139 = 0 then (if t144 = 0 then (if t145 = 0 then (if (t136.length : Int) = 16 then (if t151 = true then ((fuguelaw01_least.f).bind fun bt157 => ((code_Locations.f k bt157.1 bt157.2).bind fun t161 => (some (t161 == 1)))) else (some false)) else (some false)) else (some false)) else (some false)) else (some false)) else (some false))) = some r := H
 have A6 := Az.mk A60
 clear A60
 replace H := Option.bind_eq_some_iff.mp H
 obtain ⟨t156, A70, H⟩ := H
 replace H : (if t156 = 0 then (if t139 = 0 then (if t144 = 0 then (if t145 = 0 then (if (t136.length : Int) = 16 then (if t151 = true then ((fuguelaw01_least.f).bind fun bt157 => ((code_Locations.f k bt157.1 bt157.2).bind fun t161 => (some (t161 == 1)))) else (some false)) else (some false)) else (some false)) else (some false)) else (some false)) else (some false)) = some r := H
 have A7 := Az.mk A70
 clear A70
 by_cases c8 : t156 = 0
 ·rw [if_pos c8] at H
  have c8b0 : (t156 == 0) = true := beq_iff_eq.mpr c8
  have c8b1 : (t156 != 0) = false := bne_eq_false_iff_eq.mpr c8
  clear c8
  by_cases c9 : t139 = 0
  ·rw [if_pos c9] at H
   have c9b0 : (t139 == 0) = true := beq_iff_eq.mpr c9
   have c9b1 : (t139 != 0) = false := bne_eq_false_iff_eq.mpr c9
   clear c9
   by_cases c10 : t144 = 0
   ·rw [if_pos c10] at H
    have c10b0 : (t144 == 0) = true := beq_iff_eq.mpr c10
    have c10b1 : (t144 != 0) = false := bne_eq_false_iff_eq.mpr c10
    clear c10
    by_cases c11 : t145 = 0
    ·rw [if_pos c11] at H
     have c11b0 : (t145 == 0) = true := beq_iff_eq.mpr c11
     have c11b1 : (t145 != 0) = false := bne_eq_false_iff_eq.mpr c11
     clear c11
     by_cases c12 : (t136.length : Int) = 16
     ·rw [if_pos c12] at H
      have c12b0 : ((t136.length : Int) == 16) = true := beq_iff_eq.mpr c12
      have c12b1 : ((t136.length : Int) != 16) = false := bne_eq_false_iff_eq.mpr c12
      clear c12
      by_cases c13 : t151 = true
      ·subst c13
       have H1 : ((fuguelaw01_least.f).bind fun bt157 => ((code_Locations.f k bt157.1 bt157.2).bind fun t161 => (some (t161 == 1)))) = some r := by rw [if_pos rfl] at H; exact H
       clear H
       have H := H1
       clear H1
       replace H := Option.bind_eq_some_iff.mp H
       obtain ⟨⟨t157, t158⟩, A140, H⟩ := H
       replace H : ((code_Locations.f k t157 t158).bind fun t161 => (some (t161 == 1))) = some r := H
       have A14 := Az.mk A140
       clear A140
       replace H := Option.bind_eq_some_iff.mp H
       obtain ⟨t161, A150, H⟩ := H
       replace H : (some (t161 == 1)) = some r := H
       have A15 := Az.mk A150
       clear A150
       obtain rfl := Option.some.inj H
       go_enter Tryd.func10, Tryd.ntmps10
       try go_wp2_with (first | ((with_reducible refine gate_callee (f := 29) rfl ?_); refine goesL_ (some 8) rfl rfl Tryd.func29 (by kernel_rfl) rfl #[] rfl (by (try simp only [List.map_toArray, List.map_cons, List.map_nil]); first | done | rfl | (simp only [List.length_drop, List.length_take]; rfl)) ?_; (with_reducible refine (fuguelaw01_least.calls  t132 t133 _ A1.out).mono ?_); rintro e w16 ⟨v134, rfl, ho0, hb⟩; refine ⟨_, rfl, ?_⟩; have HO135 := Az.mk (Kd.N_lower (Kd.N_mono (ok' := fun k_ => True) ho0 (fun k_ hk_ => trivial)) (zZ (by repeat (first | (with_reducible first | exact HB.out | apply lZ | apply pZ | apply dZ) | exact HB.out)))); replace HB := Az.mk (tZ (by repeat (first | (with_reducible first | exact HB.out | apply lZ | apply pZ | apply dZ) | exact HB.out)) hb); (try clear hb); (try clear hb2); (try clear hk); (try clear hi); (try clear ho0); obtain ⟨Ao17, co17, eo17⟩ := Kd.N_slice HO135.out; subst eo17) | ((with_reducible refine gate_callee (f := 20) rfl ?_); refine goesL_ (some 9) rfl rfl Tryd.func20 (by kernel_rfl) rfl #[.agg #[.int .i64 t132, .slice Ao17 t133.length co17]] rfl (by (try simp only [List.map_toArray, List.map_cons, List.map_nil]); first | done | rfl | (simp only [List.length_drop, List.length_take]; rfl)) ?_; (with_reducible refine (code_Encode.calls t132 _ _ t133 t136 t139 _ ?side1 ?side2 A2.out ?tab).mono ?_); (case tab => exact Tab.below HTab.out (by repeat (first | (with_reducible first | exact HB.out | apply lZ | apply pZ | apply dZ) | exact HB.out))); (case side1 => repeat (first | exact (Kd.N_reads' HO135.out).2.2 | (with_reducible refine Kd.C_alloc ?_ _) | (with_reducible refine Kd.C_drewN ?_ _) | (with_reducible refine Kd.C_drew ?_))); (case side2 => exact (Kd.N_reads' HO135.out).2.1); rintro e w18 ⟨v137, rfl, ho0, hb⟩; refine ⟨_, rfl, ?_⟩; replace HO135 := Az.mk (Kd.N_elder' (by (with_reducible repeat (first | apply Kd.N_alloc | apply Kd.N_drewN | apply Kd.N_drew)); exact HO135.out) (Kd.R_base ho0) hb); have HO138 := Az.mk (Kd.R_lower ho0 (zZ (by repeat (first | (with_reducible first | exact HB.out | apply lZ | apply pZ | apply dZ) | exact HB.out)))); replace HB := Az.mk (tZ (by repeat (first | (with_reducible first | exact HB.out | apply lZ | apply pZ | apply dZ) | exact HB.out)) hb); (try clear hb); (try clear hb2); (try clear hk); (try clear hi); (try clear ho0); obtain ⟨Ao19, co19, eo19⟩ := Kd.R_slice HO138.out; subst eo19) | ((with_reducible refine gate_callee (f := 24) rfl ?_); refine goesL_ (some 14) rfl rfl Tryd.func24 (by kernel_rfl) rfl #[.slice Ao19 t136.length co19] rfl (by (try simp only [List.map_toArray, List.map_cons, List.map_nil]); first | done | rfl | (simp only [List.length_drop, List.length_take]; rfl)) ?_; (with_reducible refine (code_Decode.calls _ _ t136 t140 t141 t144 t145 _ ?side1 ?side2 A3.out ?tab).mono ?_); (case tab => exact Tab.below HTab.out (by repeat (first | (with_reducible first | exact HB.out | apply lZ | apply pZ | apply dZ) | exact HB.out))); (case side1 => repeat (first | exact (Kd.R_reads' HO138.out).2.2 | (with_reducible refine Kd.C_alloc ?_ _) | (with_reducible refine Kd.C_drewN ?_ _) | (with_reducible refine Kd.C_drew ?_))); (case side2 => exact (Kd.R_reads' HO138.out).2.1); rintro e w20 ⟨v142, rfl, ho0, hb⟩; refine ⟨_, rfl, ?_⟩; have n0_ := Az.mk (Kd.N_elder' (by (with_reducible repeat (first | apply Kd.N_alloc | apply Kd.N_drewN | apply Kd.N_drew)); exact HO135.out) (Kd.R_base ho0) hb); have n1_ := Az.mk (Kd.R_below (by (with_reducible repeat (first | apply Kd.R_alloc | apply Kd.R_drewN | apply Kd.R_drew)); exact HO138.out) hb); have n2_ := Az.mk (Kd.N_lower (Kd.N_mono (ok' := fun k_ => some k_ ≠ (.slice Ao17 t133.length co17 : Value).ownBlock ∧ some k_ ≠ (.slice Ao19 t136.length co19 : Value).ownBlock) (Kd.R_N (Kd.R_bound ho0)) (fun k_ hk_ => ⟨(Kd.fresh' (Kd.N_lt (by (with_reducible repeat (first | apply Kd.N_alloc | apply Kd.N_drewN | apply Kd.N_drew)); exact HO135.out)) k_ hk_.2.1), (Kd.fresh' (Kd.R_lt (by (with_reducible repeat (first | apply Kd.R_alloc | apply Kd.R_drewN | apply Kd.R_drew)); exact HO138.out)) k_ hk_.2.1)⟩)) (zZ (by repeat (first | (with_reducible first | exact HB.out | apply lZ | apply pZ | apply dZ) | exact HB.out)))); have n3_ := Az.mk (tZ (by repeat (first | (with_reducible first | exact HB.out | apply lZ | apply pZ | apply dZ) | exact HB.out)) hb); clear HO135; clear HO138; clear HB; have HO135 := n0_; have HO138 := n1_; have HO143 := n2_; have HB := n3_; clear n0_ n1_ n2_ n3_; (try clear hb); (try clear hb2); (try clear hk); (try clear hi); (try clear ho0)) | ((with_reducible refine gate_dst (N := 3) rfl ?_); (try (refine gate_guard (by rfl) ?_; dsimp only)); refine box_event ?hg (N := 3) ?hd (cs := #[.int .i64 0, .slice none 0 0]) (t := 24) ?hr ?_; (case hd => rfl); (case hg => rfl); (case hr => first | (go_simp; done) | (go_simp; rfl)); intro gb146 hg w21 hbox hb; have n0_ := Az.mk (Kd.N_below (Kd.N_elderB (by (with_reducible repeat (first | apply Kd.N_alloc | apply Kd.N_drewN | apply Kd.N_drew)); exact HO135.out) gb146 (Nat.le_of_eq hg.symm)) hb); have n1_ := Az.mk (Kd.R_below (by (with_reducible repeat (first | apply Kd.R_alloc | apply Kd.R_drewN | apply Kd.R_drew)); exact HO138.out) hb); have n2_ := Az.mk (Kd.N_below (Kd.N_elderB (by (with_reducible repeat (first | apply Kd.N_alloc | apply Kd.N_drewN | apply Kd.N_drew)); exact HO143.out) gb146 (Nat.le_of_eq hg.symm)) hb); have n3_ := Az.mk (tZ (by repeat (first | (with_reducible first | exact HB.out | apply lZ | apply pZ | apply dZ) | exact HB.out)) hb); have n4_ := Az.mk (hbox); have n5_ := Az.mk ((by rw [hg]; exact (zZ (by repeat (first | (with_reducible first | exact HB.out | apply lZ | apply pZ | apply dZ) | exact HB.out))) : w.heap.size ≤ gb146)); have n6_ := Az.mk ((by rw [hg]; exact (zZ (by repeat (first | (with_reducible first | exact HB.out | apply lZ | apply pZ | apply dZ) | exact HB.out))) : w.heap.size ≤ gb146)); clear HO135; clear HO138; clear HO143; clear HB; have HO135 := n0_; have HO138 := n1_; have HO143 := n2_; have HB := n3_; have BK146 := n4_; have GW146 := n5_; have GE146 := n6_; clear n0_ n1_ n2_ n3_ n4_ n5_ n6_; clear hb hbox hg; have hcz22_0 : w21.cell? ⟨gb146, 0, none⟩ = some (.int .i64 0) := (bZ BK146.out 0).trans rfl; have hcz22_1 : w21.cell? ⟨gb146, 1, none⟩ = some (.slice none 0 0) := (bZ BK146.out 1).trans rfl; have hfz22_0 := fZ BK146.out 0; have hfz22_1 := fZ BK146.out 1; obtain ⟨Ao23, co23, eo23⟩ := Kd.N_slice HO143.out; subst eo23))
       have n0_ : Az (Kd.N k46 46 ((w21.setCell ⟨gb146, 0, none⟩ (.int .i64 t140)).setCell ⟨gb146, 1, none⟩ (.slice Ao23 t141.length co23)) w.heap.size (fun k_ => some k_ ≠ (.slice Ao19 t136.length co19 : Value).ownBlock ∧ some k_ ≠ (.slice Ao23 t141.length co23 : Value).ownBlock ∧ k_ ≠ gb146) (.slice Ao17 t133.length co17) t133) := ⟨by (with_reducible repeat (first | apply Kd.N_alloc | apply Kd.N_drewN | apply Kd.N_drew)); exact Kd.N_mono (Kd.N_far (p := ⟨gb146, 1, none⟩) (Kd.N_far (p := ⟨gb146, 0, none⟩) (Kd.N_mono HO135.out (fun k_ hk => (⟨hk, hk.2⟩ : _ ∧ k_ ≠ gb146))) (fun _ hk => hk.2) (.int .i64 t140)) (fun _ hk => hk.2) (.slice Ao23 t141.length co23)) (fun _ hk => ⟨hk.1.1.1.2, ⟨hk.1.1.2, hk.1.2⟩⟩)⟩
       have n1_ : Az (Kd.R (Kd.int .u8) 5 ((w21.setCell ⟨gb146, 0, none⟩ (.int .i64 t140)).setCell ⟨gb146, 1, none⟩ (.slice Ao23 t141.length co23)) w.heap.size (fun _ => True) (.slice Ao19 t136.length co19) t136) := ⟨by (with_reducible repeat (first | apply Kd.R_alloc | apply Kd.R_drewN | apply Kd.R_drew)); exact Kd.R_mono (Kd.R_far (p := ⟨gb146, 1, none⟩) (Kd.R_far (p := ⟨gb146, 0, none⟩) (Kd.R_types HO138.out BK146.out (by decide)) (fun _ hk => hk.2) (.int .i64 t140)) (fun _ hk => hk.2) (.slice Ao23 t141.length co23)) (fun _ hk => trivial)⟩
       have n2_ : Az (Kd.N k46 46 ((w21.setCell ⟨gb146, 0, none⟩ (.int .i64 t140)).setCell ⟨gb146, 1, none⟩ (.slice Ao23 t141.length co23)) w.heap.size (fun k_ => some k_ ≠ (.slice Ao17 t133.length co17 : Value).ownBlock ∧ some k_ ≠ (.slice Ao19 t136.length co19 : Value).ownBlock ∧ k_ ≠ gb146) (.slice Ao23 t141.length co23) t141) := ⟨by (with_reducible repeat (first | apply Kd.N_alloc | apply Kd.N_drewN | apply Kd.N_drew)); exact Kd.N_mono (Kd.N_far (p := ⟨gb146, 1, none⟩) (Kd.N_far (p := ⟨gb146, 0, none⟩) (Kd.N_mono HO143.out (fun k_ hk => (⟨hk, hk.2⟩ : _ ∧ k_ ≠ gb146))) (fun _ hk => hk.2) (.int .i64 t140)) (fun _ hk => hk.2) (.slice Ao23 t141.length co23)) (fun _ hk => ⟨hk.1.1.1, ⟨hk.1.1.2, hk.1.2⟩⟩)⟩
       have n3_ : Az (((w21.setCell ⟨gb146, 0, none⟩ (.int .i64 t140)).setCell ⟨gb146, 1, none⟩ (.slice Ao23 t141.length co23)).heap[gb146]? = some (.cells #[.int .i64 t140, .slice Ao23 t141.length co23] 24 (0, 0))) := ⟨by (with_reducible repeat (first | refine blk_drewN ?_ _ | refine wZ ?_ | refine aZ ?_ _)); refine blk_put (cs := #[.int .i64 t140, .slice none 0 0]) ?_ 1 _ rfl; (with_reducible repeat (first | refine blk_drewN ?_ _ | refine wZ ?_ | refine aZ ?_ _)); refine blk_put (cs := #[.int .i64 0, .slice none 0 0]) ?_ 0 _ rfl; (with_reducible repeat (first | refine blk_drewN ?_ _ | refine wZ ?_ | refine aZ ?_ _)); exact BK146.out⟩
       have n4_ : Az (Below w.heap.size w ((w21.setCell ⟨gb146, 0, none⟩ (.int .i64 t140)).setCell ⟨gb146, 1, none⟩ (.slice Ao23 t141.length co23))) := ⟨by repeat (first | (with_reducible first | exact HB.out | apply lZ | apply pZ | apply dZ | refine sZ ?_ GE146.out) | exact HB.out)⟩
       (try clear HO135)
       (try clear HO138)
       (try clear HO143)
       (try clear BK146)
       (try clear HB)
       generalize ((w21.setCell ⟨gb146, 0, none⟩ (.int .i64 t140)).setCell ⟨gb146, 1, none⟩ (.slice Ao23 t141.length co23)) = w24 at n0_ n1_ n2_ n3_ n4_ ⊢
       have HO135 := n0_
       have HO138 := n1_
       have HO143 := n2_
       have BK146 := n3_
       have HB := n4_
       clear n0_ n1_ n2_ n3_ n4_
       replace HO135 := Az.mk (Kd.N_drew HO135.out)
       replace HO138 := Az.mk (Kd.R_drew HO138.out)
       replace HO143 := Az.mk (Kd.N_drew HO143.out)
       replace BK146 := Az.mk (wZ BK146.out)
       replace HB := Az.mk (dZ HB.out)
       refine start_ (n := 4) (S := fun w' => w'.cell? ⟨gb146, 0, none⟩ = some (.int .i64 t140) ∧ w'.cell? ⟨gb146, 1, none⟩ = some (.slice Ao23 t141.length co23)) (ds := []) #[false, false, false, false] (by kernel_rfl) rfl rfl ⟨(bZ BK146.out 0).trans rfl, (bZ BK146.out 1).trans rfl⟩ (fun hHeld => ?_)
       generalize w24.drew = w25 at HO135 HO138 HO143 BK146 HB hHeld ⊢
       refine pt 0 (some 18) (v := ?_) (a' := ?_) rfl rfl (by kernel_rfl) (fun _ _ _ h => h) (Or.inl ⟨by rfl, ?_⟩) hHeld ?_ ?_
       rotate_left; (rintro w' ⟨s0, s1⟩; go_simp; with_reducible rfl); rotate_left; (simp only [Act.put, pn, i64_w, i32_w]; rfl)
       refine one_ (i := 1) (N := some 19) #[true, true, false, false] rfl rfl (by kernel_rfl) (by decide) (fun K hK => ?_)
       refine goes_ Tryd.func29 (by kernel_rfl) rfl #[] (by rfl) rfl rfl (by (try simp only [List.map_toArray, List.map_cons, List.map_nil]); first | done | rfl | (simp only [List.length_drop, List.length_take]; rfl)) ?_
       with_reducible refine (fuguelaw01_least.calls  t147 t148 _ A4.out).mono ?_
       rintro e w26 ⟨v149, rfl, ho0, hb⟩
       refine ⟨_, rfl, ?_⟩
       have n0_ := Az.mk (Kd.N_elder' (by (with_reducible repeat (first | apply Kd.N_alloc | apply Kd.N_drewN | apply Kd.N_drew)); exact HO135.out) (Kd.N_base ho0) hb)
       have n1_ := Az.mk (Kd.R_below (by (with_reducible repeat (first | apply Kd.R_alloc | apply Kd.R_drewN | apply Kd.R_drew)); exact HO138.out) hb)
       have n2_ := Az.mk (Kd.N_elder' (by (with_reducible repeat (first | apply Kd.N_alloc | apply Kd.N_drewN | apply Kd.N_drew)); exact HO143.out) (Kd.N_base ho0) hb)
       have n3_ := Az.mk (Kd.N_lower (Kd.N_mono (ok' := fun k_ => some k_ ≠ (.slice Ao17 t133.length co17 : Value).ownBlock ∧ some k_ ≠ (.slice Ao19 t136.length co19 : Value).ownBlock ∧ some k_ ≠ (.slice Ao23 t141.length co23 : Value).ownBlock ∧ k_ ≠ gb146) ho0 (fun k_ hk_ => ⟨(Kd.fresh' (Kd.N_lt (by (with_reducible repeat (first | apply Kd.N_alloc | apply Kd.N_drewN | apply Kd.N_drew)); exact HO135.out)) k_ hk_), (Kd.fresh' (Kd.R_lt (by (with_reducible repeat (first | apply Kd.R_alloc | apply Kd.R_drewN | apply Kd.R_drew)); exact HO138.out)) k_ hk_), (Kd.fresh' (Kd.N_lt (by (with_reducible repeat (first | apply Kd.N_alloc | apply Kd.N_drewN | apply Kd.N_drew)); exact HO143.out)) k_ hk_), (Kd.freshB (g := gb146) (o := .cells #[.int .i64 t140, .slice Ao23 t141.length co23] 24 (0, 0)) (by (with_reducible repeat (first | refine blk_drewN ?_ _ | refine wZ ?_ | refine aZ ?_ _)); exact BK146.out) k_ hk_)⟩)) (zZ (by repeat (first | (with_reducible first | exact HB.out | apply lZ | apply pZ | apply dZ | refine sZ ?_ GE146.out) | exact HB.out))))
       have n4_ := Az.mk (kZ (g := gb146) (o := .cells #[.int .i64 t140, .slice Ao23 t141.length co23] 24 (0, 0)) (by (with_reducible repeat (first | refine blk_drewN ?_ _ | refine wZ ?_ | refine aZ ?_ _)); exact BK146.out) hb)
       have n5_ := Az.mk (tZ (by repeat (first | (with_reducible first | exact HB.out | apply lZ | apply pZ | apply dZ | refine sZ ?_ GE146.out) | exact HB.out)) hb)
       clear HO135
       clear HO138
       clear HO143
       clear BK146
       clear HB
       have HO135 := n0_
       have HO138 := n1_
       have HO143 := n2_
       have HO150 := n3_
       have BK146 := n4_
       have HB := n5_
       clear n0_ n1_ n2_ n3_ n4_ n5_
       (try clear hb)
       (try clear hb2)
       (try clear hk)
       (try clear hi)
       (try clear ho0)
       obtain ⟨Ao27, co27, eo27⟩ := Kd.N_slice HO150.out
       (first | subst eo27 | (injection eo27 with f1_ f2_ f3_; have f4_ := f1_.symm; have f5_ := f3_.symm; clear f1_ f2_ f3_; subst f4_; subst f5_))
       refine hK.out _ _ ⟨(bZ BK146.out 0).trans rfl, (bZ BK146.out 1).trans rfl⟩ (fun hHeld => ?_)
       clear hK K
       refine norm_ (a' := ?_) ?_ ?_
       rotate_left
       ·show Act.put _ (some 19) _ = _
        simp only [Act.put, pn, i64_w, i32_w]
        rfl
       refine one_ (i := 2) (N := some 20) #[true, true, true, false] rfl rfl (by kernel_rfl) (by decide) (fun K hK => ?_)
       refine goes_ Tryd.func14 (by kernel_rfl) rfl #[.agg #[.int .i64 t140, .slice Ao23 t141.length co23], .agg #[.int .i64 t147, .slice Ao27 t148.length co27]] (by rfl) rfl rfl (by (try simp only [List.map_toArray, List.map_cons, List.map_nil]); first | done | rfl | (simp only [List.length_drop, List.length_take]; rfl)) ?_
       with_reducible refine (fugueref00_EqProgram.calls k t140 _ _ t141 t147 _ _ t148 true rfl _ ?side1 ?side2 ?side3 ?side4 A5.out).mono ?_
       (case side1 => repeat (first | exact (Kd.N_reads' HO143.out).2.2 | (with_reducible refine Kd.C_alloc ?_ _) | (with_reducible refine Kd.C_drewN ?_ _) | (with_reducible refine Kd.C_drew ?_)))
       (case side2 => exact (Kd.N_reads' HO143.out).2.1)
       (case side3 => repeat (first | exact (Kd.N_reads' HO150.out).2.2 | (with_reducible refine Kd.C_alloc ?_ _) | (with_reducible refine Kd.C_drewN ?_ _) | (with_reducible refine Kd.C_drew ?_)))
       (case side4 => exact (Kd.N_reads' HO150.out).2.1)
       rintro e w28 ⟨rfl, hb⟩
       refine ⟨_, rfl, ?_⟩
       replace HO135 := Az.mk (Kd.N_below (by (with_reducible repeat (first | apply Kd.N_alloc | apply Kd.N_drewN | apply Kd.N_drew)); exact HO135.out) hb)
       replace HO138 := Az.mk (Kd.R_below (by (with_reducible repeat (first | apply Kd.R_alloc | apply Kd.R_drewN | apply Kd.R_drew)); exact HO138.out) hb)
       replace HO143 := Az.mk (Kd.N_below (by (with_reducible repeat (first | apply Kd.N_alloc | apply Kd.N_drewN | apply Kd.N_drew)); exact HO143.out) hb)
       replace HO150 := Az.mk (Kd.N_below (by (with_reducible repeat (first | apply Kd.N_alloc | apply Kd.N_drewN | apply Kd.N_drew)); exact HO150.out) hb)
       replace BK146 := Az.mk (kZ (g := gb146) (o := .cells #[.int .i64 t140, .slice Ao23 t141.length co23] 24 (0, 0)) (by (with_reducible repeat (first | refine blk_drewN ?_ _ | refine wZ ?_ | refine aZ ?_ _)); exact BK146.out) hb)
       replace HB := Az.mk (tZ (by repeat (first | (with_reducible first | exact HB.out | apply lZ | apply pZ | apply dZ | refine sZ ?_ GE146.out) | exact HB.out)) hb)
       (try clear hb)
       (try clear hb2)
       (try clear hk)
       (try clear hi)
       refine hK.out _ _ ⟨(bZ BK146.out 0).trans rfl, (bZ BK146.out 1).trans rfl⟩ (fun hHeld => ?_)
       clear hK K
       refine norm_ (a' := ?_) ?_ ?_
       rotate_left
       ·show Act.put _ (some 20) _ = _
        simp only [Act.put, pn, i64_w, i32_w]
        rfl
       refine pure_ (i := 3) (N := some 6) (v := ?_) (a' := ?_) #[true, true, true, true] rfl rfl (by kernel_rfl) (fun _ _ _ h => h) (Or.inl ⟨by rfl, ?_⟩) ?_ ?_
       rotate_left
       ·intro w'
        go_simp
        with_reducible rfl
       rotate_left
       ·simp only [Act.put, pn, i64_w, i32_w]
        rfl
       refine done_ (by kernel_rfl) ?_
       try go_wp2_with (first | ((with_reducible refine gate_callee (f := 29) rfl ?_); refine goesL_ (some 21) rfl rfl Tryd.func29 (by kernel_rfl) rfl #[] rfl (by (try simp only [List.map_toArray, List.map_cons, List.map_nil]); first | done | rfl | (simp only [List.length_drop, List.length_take]; rfl)) ?_; (with_reducible refine (fuguelaw01_least.calls  t152 t153 _ A6.out).mono ?_); rintro e w29 ⟨v154, rfl, ho0, hb⟩; refine ⟨_, rfl, ?_⟩; have n0_ := Az.mk (Kd.N_elder' (by (with_reducible repeat (first | apply Kd.N_alloc | apply Kd.N_drewN | apply Kd.N_drew)); exact HO135.out) (Kd.N_base ho0) hb); have n1_ := Az.mk (Kd.R_below (by (with_reducible repeat (first | apply Kd.R_alloc | apply Kd.R_drewN | apply Kd.R_drew)); exact HO138.out) hb); have n2_ := Az.mk (Kd.N_elder' (by (with_reducible repeat (first | apply Kd.N_alloc | apply Kd.N_drewN | apply Kd.N_drew)); exact HO143.out) (Kd.N_base ho0) hb); have n3_ := Az.mk (Kd.N_elder' (by (with_reducible repeat (first | apply Kd.N_alloc | apply Kd.N_drewN | apply Kd.N_drew)); exact HO150.out) (Kd.N_base ho0) hb); have n4_ := Az.mk (Kd.N_lower (Kd.N_mono (ok' := fun k_ => some k_ ≠ (.slice Ao17 t133.length co17 : Value).ownBlock ∧ some k_ ≠ (.slice Ao19 t136.length co19 : Value).ownBlock ∧ some k_ ≠ (.slice Ao23 t141.length co23 : Value).ownBlock ∧ some k_ ≠ (.slice Ao27 t148.length co27 : Value).ownBlock ∧ k_ ≠ gb146) ho0 (fun k_ hk_ => ⟨(Kd.fresh' (Kd.N_lt (by (with_reducible repeat (first | apply Kd.N_alloc | apply Kd.N_drewN | apply Kd.N_drew)); exact HO135.out)) k_ hk_), (Kd.fresh' (Kd.R_lt (by (with_reducible repeat (first | apply Kd.R_alloc | apply Kd.R_drewN | apply Kd.R_drew)); exact HO138.out)) k_ hk_), (Kd.fresh' (Kd.N_lt (by (with_reducible repeat (first | apply Kd.N_alloc | apply Kd.N_drewN | apply Kd.N_drew)); exact HO143.out)) k_ hk_), (Kd.fresh' (Kd.N_lt (by (with_reducible repeat (first | apply Kd.N_alloc | apply Kd.N_drewN | apply Kd.N_drew)); exact HO150.out)) k_ hk_), (Kd.freshB (g := gb146) (o := .cells #[.int .i64 t140, .slice Ao23 t141.length co23] 24 (0, 0)) (by (with_reducible repeat (first | refine blk_drewN ?_ _ | refine wZ ?_ | refine aZ ?_ _)); exact BK146.out) k_ hk_)⟩)) (zZ (by repeat (first | (with_reducible first | exact HB.out | apply lZ | apply pZ | apply dZ | refine sZ ?_ GE146.out) | exact HB.out)))); have n5_ := Az.mk (kZ (g := gb146) (o := .cells #[.int .i64 t140, .slice Ao23 t141.length co23] 24 (0, 0)) (by (with_reducible repeat (first | refine blk_drewN ?_ _ | refine wZ ?_ | refine aZ ?_ _)); exact BK146.out) hb); have n6_ := Az.mk (tZ (by repeat (first | (with_reducible first | exact HB.out | apply lZ | apply pZ | apply dZ | refine sZ ?_ GE146.out) | exact HB.out)) hb); clear HO135; clear HO138; clear HO143; clear HO150; clear BK146; clear HB; have HO135 := n0_; have HO138 := n1_; have HO143 := n2_; have HO150 := n3_; have HO155 := n4_; have BK146 := n5_; have HB := n6_; clear n0_ n1_ n2_ n3_ n4_ n5_ n6_; (try clear hb); (try clear hb2); (try clear hk); (try clear hi); (try clear ho0); obtain ⟨Ao30, co30, eo30⟩ := Kd.N_slice HO155.out; subst eo30) | ((with_reducible refine gate_callee (f := 12) rfl ?_); refine goesL_ (some 22) rfl rfl Tryd.func12 (by kernel_rfl) rfl #[.agg #[.int .i64 t152, .slice Ao30 t153.length co30]] rfl (by (try simp only [List.map_toArray, List.map_cons, List.map_nil]); first | done | rfl | (simp only [List.length_drop, List.length_take]; rfl)) ?_; (with_reducible refine (code_Check.calls t152 _ _ t153 t156 _ ?side1 ?side2 A7.out).mono ?_); (case side1 => repeat (first | exact (Kd.N_reads' HO155.out).2.2 | (with_reducible refine Kd.C_alloc ?_ _) | (with_reducible refine Kd.C_drewN ?_ _) | (with_reducible refine Kd.C_drew ?_))); (case side2 => exact (Kd.N_reads' HO155.out).2.1); rintro e w31 ⟨rfl, hb⟩; refine ⟨_, rfl, ?_⟩; replace HO135 := Az.mk (Kd.N_below (by (with_reducible repeat (first | apply Kd.N_alloc | apply Kd.N_drewN | apply Kd.N_drew)); exact HO135.out) hb); replace HO138 := Az.mk (Kd.R_below (by (with_reducible repeat (first | apply Kd.R_alloc | apply Kd.R_drewN | apply Kd.R_drew)); exact HO138.out) hb); replace HO143 := Az.mk (Kd.N_below (by (with_reducible repeat (first | apply Kd.N_alloc | apply Kd.N_drewN | apply Kd.N_drew)); exact HO143.out) hb); replace HO150 := Az.mk (Kd.N_below (by (with_reducible repeat (first | apply Kd.N_alloc | apply Kd.N_drewN | apply Kd.N_drew)); exact HO150.out) hb); replace HO155 := Az.mk (Kd.N_below (by (with_reducible repeat (first | apply Kd.N_alloc | apply Kd.N_drewN | apply Kd.N_drew)); exact HO155.out) hb); replace BK146 := Az.mk (kZ (g := gb146) (o := .cells #[.int .i64 t140, .slice Ao23 t141.length co23] 24 (0, 0)) (by (with_reducible repeat (first | refine blk_drewN ?_ _ | refine wZ ?_ | refine aZ ?_ _)); exact BK146.out) hb); replace HB := Az.mk (tZ (by repeat (first | (with_reducible first | exact HB.out | apply lZ | apply pZ | apply dZ | refine sZ ?_ GE146.out) | exact HB.out)) hb); (try clear hb); (try clear hb2); (try clear hk); (try clear hi)) | (go_at_call 29; (with_reducible refine (fuguelaw01_least.calls  t157 t158 _ A14.out).mono ?_); rintro e w32 ⟨v159, rfl, ho0, hb⟩; have n0_ := Az.mk (Kd.N_elder' (by (with_reducible repeat (first | apply Kd.N_alloc | apply Kd.N_drewN | apply Kd.N_drew)); exact HO135.out) (Kd.N_base ho0) hb); have n1_ := Az.mk (Kd.R_below (by (with_reducible repeat (first | apply Kd.R_alloc | apply Kd.R_drewN | apply Kd.R_drew)); exact HO138.out) hb); have n2_ := Az.mk (Kd.N_elder' (by (with_reducible repeat (first | apply Kd.N_alloc | apply Kd.N_drewN | apply Kd.N_drew)); exact HO143.out) (Kd.N_base ho0) hb); have n3_ := Az.mk (Kd.N_elder' (by (with_reducible repeat (first | apply Kd.N_alloc | apply Kd.N_drewN | apply Kd.N_drew)); exact HO150.out) (Kd.N_base ho0) hb); have n4_ := Az.mk (Kd.N_elder' (by (with_reducible repeat (first | apply Kd.N_alloc | apply Kd.N_drewN | apply Kd.N_drew)); exact HO155.out) (Kd.N_base ho0) hb); have n5_ := Az.mk (Kd.N_lower (Kd.N_mono (ok' := fun k_ => some k_ ≠ (.slice Ao17 t133.length co17 : Value).ownBlock ∧ some k_ ≠ (.slice Ao19 t136.length co19 : Value).ownBlock ∧ some k_ ≠ (.slice Ao23 t141.length co23 : Value).ownBlock ∧ some k_ ≠ (.slice Ao27 t148.length co27 : Value).ownBlock ∧ some k_ ≠ (.slice Ao30 t153.length co30 : Value).ownBlock ∧ k_ ≠ gb146) ho0 (fun k_ hk_ => ⟨(Kd.fresh' (Kd.N_lt (by (with_reducible repeat (first | apply Kd.N_alloc | apply Kd.N_drewN | apply Kd.N_drew)); exact HO135.out)) k_ hk_), (Kd.fresh' (Kd.R_lt (by (with_reducible repeat (first | apply Kd.R_alloc | apply Kd.R_drewN | apply Kd.R_drew)); exact HO138.out)) k_ hk_), (Kd.fresh' (Kd.N_lt (by (with_reducible repeat (first | apply Kd.N_alloc | apply Kd.N_drewN | apply Kd.N_drew)); exact HO143.out)) k_ hk_), (Kd.fresh' (Kd.N_lt (by (with_reducible repeat (first | apply Kd.N_alloc | apply Kd.N_drewN | apply Kd.N_drew)); exact HO150.out)) k_ hk_), (Kd.fresh' (Kd.N_lt (by (with_reducible repeat (first | apply Kd.N_alloc | apply Kd.N_drewN | apply Kd.N_drew)); exact HO155.out)) k_ hk_), (Kd.freshB (g := gb146) (o := .cells #[.int .i64 t140, .slice Ao23 t141.length co23] 24 (0, 0)) (by (with_reducible repeat (first | refine blk_drewN ?_ _ | refine wZ ?_ | refine aZ ?_ _)); exact BK146.out) k_ hk_)⟩)) (zZ (by repeat (first | (with_reducible first | exact HB.out | apply lZ | apply pZ | apply dZ | refine sZ ?_ GE146.out) | exact HB.out)))); have n6_ := Az.mk (kZ (g := gb146) (o := .cells #[.int .i64 t140, .slice Ao23 t141.length co23] 24 (0, 0)) (by (with_reducible repeat (first | refine blk_drewN ?_ _ | refine wZ ?_ | refine aZ ?_ _)); exact BK146.out) hb); have n7_ := Az.mk (tZ (by repeat (first | (with_reducible first | exact HB.out | apply lZ | apply pZ | apply dZ | refine sZ ?_ GE146.out) | exact HB.out)) hb); clear HO135; clear HO138; clear HO143; clear HO150; clear HO155; clear BK146; clear HB; have HO135 := n0_; have HO138 := n1_; have HO143 := n2_; have HO150 := n3_; have HO155 := n4_; have HO160 := n5_; have BK146 := n6_; have HB := n7_; clear n0_ n1_ n2_ n3_ n4_ n5_ n6_ n7_; (try clear hb); (try clear hb2); (try clear hk); (try clear hi); (try clear ho0); obtain ⟨Ao33, co33, eo33⟩ := Kd.N_slice HO160.out; subst eo33) | (go_at_call 13; (with_reducible refine (code_Locations.calls k t157 _ _ t158 t161 _ ?side1 ?side2 A15.out).mono ?_); (case side1 => repeat (first | exact (Kd.N_reads' HO160.out).2.2 | (with_reducible refine Kd.C_alloc ?_ _) | (with_reducible refine Kd.C_drewN ?_ _) | (with_reducible refine Kd.C_drew ?_))); (case side2 => exact (Kd.N_reads' HO160.out).2.1); rintro e w34 ⟨rfl, hb⟩; replace HO135 := Az.mk (Kd.N_below (by (with_reducible repeat (first | apply Kd.N_alloc | apply Kd.N_drewN | apply Kd.N_drew)); exact HO135.out) hb); replace HO138 := Az.mk (Kd.R_below (by (with_reducible repeat (first | apply Kd.R_alloc | apply Kd.R_drewN | apply Kd.R_drew)); exact HO138.out) hb); replace HO143 := Az.mk (Kd.N_below (by (with_reducible repeat (first | apply Kd.N_alloc | apply Kd.N_drewN | apply Kd.N_drew)); exact HO143.out) hb); replace HO150 := Az.mk (Kd.N_below (by (with_reducible repeat (first | apply Kd.N_alloc | apply Kd.N_drewN | apply Kd.N_drew)); exact HO150.out) hb); replace HO155 := Az.mk (Kd.N_below (by (with_reducible repeat (first | apply Kd.N_alloc | apply Kd.N_drewN | apply Kd.N_drew)); exact HO155.out) hb); replace HO160 := Az.mk (Kd.N_below (by (with_reducible repeat (first | apply Kd.N_alloc | apply Kd.N_drewN | apply Kd.N_drew)); exact HO160.out) hb); replace BK146 := Az.mk (kZ (g := gb146) (o := .cells #[.int .i64 t140, .slice Ao23 t141.length co23] 24 (0, 0)) (by (with_reducible repeat (first | refine blk_drewN ?_ _ | refine wZ ?_ | refine aZ ?_ _)); exact BK146.out) hb); replace HB := Az.mk (tZ (by repeat (first | (with_reducible first | exact HB.out | apply lZ | apply pZ | apply dZ | refine sZ ?_ GE146.out) | exact HB.out)) hb); (try clear hb); (try clear hb2); (try clear hk); (try clear hi)))
       go_ret
       exact ⟨by first | rfl | (simp [errW_none, errW_some] <;> rfl) | (simp [*, errW_none, errW_some] <;> rfl), by repeat (first | (with_reducible first | exact HB.out | apply lZ | apply pZ | apply dZ | refine sZ ?_ GE146.out) | exact HB.out)⟩
      ·rw [if_neg c13, Option.some.injEq] at H; subst H; cases hr_
     ·rw [if_neg c12, Option.some.injEq] at H; subst H; cases hr_
    ·rw [if_neg c11, Option.some.injEq] at H; subst H; cases hr_
   ·rw [if_neg c10, Option.some.injEq] at H; subst H; cases hr_
  ·rw [if_neg c9, Option.some.injEq] at H; subst H; cases hr_
 ·rw [if_neg c8, Option.some.injEq] at H; subst H; cases hr_
theorem works_only {k : Nat} {r : Bool} (h : fuguelaw01_works.f k = some r) : r = true := by
 have h1 := at_rounds (fun k => fuguelaw01_works.mono k) (Nat.le_max_left k 12) h
 have h2 := at_rounds (fun k => fuguelaw01_works.mono k) (Nat.le_max_right k 12) (show fuguelaw01_works.f 12 = some true by decide +kernel)
 rw [h2] at h1
 exact (Option.some.inj h1).symm
theorem fuguelaw01_works.calls (k : Nat)  (r : Bool) (w : World) (h : fuguelaw01_works.f k  = some r) (hT_ : Tab w) :
  Calls Tryd.prog 10 #[] w fun e w' => e = .returned (.bool r) ∧ Below w.heap.size w w' := works_yes k r w h (works_only h) hT_
end Go.Proofs.YteonppgdmhakoaaDoor.PC
namespace Go.Proofs.YteonppgdmhakoaaDoor.PC
open Go.RowKit
theorem gTab : Tryd.prog.globalNamed "fugue/code.bytes" = some 0 := by kernel_rfl
theorem gTabType : (Tryd.prog.globals[0]?).map (·.type) = some 127 := by kernel_rfl
theorem gTab127 : Tryd.prog.underlying 127 = some (.array 15 3) := by kernel_rfl
theorem cells127 : Tryd.prog.cellsOf 127 = 15 := by kernel_rfl
theorem cellsOf3 : Tryd.prog.cellsOf 3 = 1 := by kernel_rfl
theorem tab_laid {W : World} (h : laidMetH Tryd.prog [("fugue/code.bytes", Rows.laid_fugue_code_bytes)] W) : Tab W := by
 have ht : Lib.TabIs Tryd.prog W "fugue/code.bytes" .i64 tabL := Lib.tabIs_of_head (rest := []) gTab gTabType gTab127 Tryd.underlying3 cellsOf3 cells127 h
 exact fun i hi => ht.cell gTab i hi
noncomputable def laidWorld (os : Os) : World :=
 { World.holding Tryd.prog os ⟨#[], #[], []⟩ with heap := (World.holding Tryd.prog os ⟨#[], #[], []⟩).heap.modify 0 fun
   | .cells _ t frozen => .cells #[.int .i64 0, .int .i64 8, .int .i64 0, .int .i64 0, .int .i64 0, .int .i64 0, .int .i64 1, .int .i64 1, .int .i64 1, .int .i64 1, .int .i64 1, .int .i64 2, .int .i64 0, .int .i64 2, .int .i64 2] t frozen
   | o => o }
theorem weights_at {H : Type} {ts : List TypeId} {ds : List (DataW H)} (h : (DataW.weightsEach Tryd.prog ts ds).all (· ≤ reachBytes) = true) {j : Nat} {t : TypeId} {d : DataW H} (ht : ts[j]? = some t) (hd : ds[j]? = some d) : ∀ n ∈ d.weights Tryd.prog t, n ≤ reachBytes := fun n hn => by
 have h1 := DataW.weights_mem_each ht hd n hn
 rw [List.all_eq_true] at h
 simpa using h n h1
end Go.Proofs.YteonppgdmhakoaaDoor.PC
namespace Go.Proofs.YteonppgdmhakoaaDoor.Open
open Go.RowKit Go.Deep Go.Proofs.YteonppgdmhakoaaDoorW.PrintWords
set_option linter.unusedVariables false
set_option linter.unusedSimpArgs false
structure Rd (P : Program) (t : TypeId) {α : Type} (d : Kd α) (ok : α → Prop) : Prop where
 sz : P.cellsOf t = d.sz
 read : ∀ {H : Type} {enc : TypeId × Value → H} {w : World} {fuel : Nat} {cs : List Value} {x : DataW H × List MemPlace}, DataW.trod enc P w 0 (fun _ => true) true fuel t cs = some x → (∀ n ∈ x.1.weights P t, n ≤ reachBytes) → ∃ a, d.K w a cs ∧ ok a
theorem rd_int {P : Program} {t : TypeId} {k : IntKind} (ht : P.underlying t = some (.int k)) (hs : P.cellsOf t = 1) : Rd P t (Kd.int k) (fun a => (Lit.int k a).wf = true) :=
 ⟨hs, fun {H enc w fuel cs x} h _ => by
  obtain ⟨a, h1, rfl, h2⟩ := DataW.trod_int ht h
  exact ⟨a, h1, h2⟩⟩
theorem mem_all {H : Type} {P : Program} {e : TypeId} : ∀ {l : List (DataW H)} {d : DataW H}, d ∈ l → ∀ n ∈ d.weights P e, n ∈ DataW.weightsAll P e l
 | d' :: l, d, hd, n, hn => by
  unfold DataW.weightsAll
  rcases List.mem_cons.1 hd with rfl | hd
  ·exact List.mem_append.2 (.inl hn)
  ·exact List.mem_append.2 (.inr (mem_all hd n hn))
theorem rd_slice {P : Program} {t e : TypeId} {α : Type} {d : Kd α} {ok : α → Prop} [Inhabited α] (ht : P.underlying t = some (.slice e)) (hs : P.cellsOf t = 1) (he : Rd P e d ok) :
  Rd P t (Kd.slice e d) (fun xs => xs.length * P.bytesOf e ≤ 140737488351232 ∧ ∀ a ∈ xs, ok a) :=
 ⟨hs, fun {H enc w fuel cs x} h hw => by
  rcases open_slice ht h with ⟨rfl, rfl⟩ | ⟨a, len, cap, m, n, D, Pl, rfl, _, hl, hm, hmm, rfl, hel⟩
  ·exact ⟨[], ⟨none, 0, rfl, Nat.le_refl _, Kd.C_nil _ _⟩, by simp, by simp⟩
  ·have hml : len ≤ m := by rw [hmm]; simp; exact hl
   have hch : ∀ i, i < len → ∃ y : α, (∃ c, c.length = d.sz ∧ d.K w y c ∧ ∀ j u, c[j]? = some u → w.cell? (a.add (i * d.sz + j)) = some u) ∧ ok y := by
    intro i hi
    obtain ⟨cs', h1, h2⟩ := hel i (by omega)
    obtain ⟨_, hcl, hcell⟩ := World.cells?_some h1
    have hD : D i ∈ (List.range len).map D := List.mem_map.2 ⟨i, List.mem_range.2 hi, rfl⟩
    obtain ⟨y, hK, hok⟩ := he.read h2 (fun k hk => hw k (by
     unfold DataW.weights
     rw [ht]
     exact List.mem_cons_of_mem _ (List.mem_append.2 (.inl (mem_all hD k hk)))))
    refine ⟨y, ⟨cs', by rw [hcl, he.sz], hK, fun j u hu => ?_⟩, hok⟩
    have hj : j < cs'.length := (List.getElem?_eq_some_iff.1 hu).1
    have := hcell j (by omega)
    rw [hu, Go.Deep.add_add, he.sz] at this
    exact this
   obtain ⟨f, hf⟩ := choose_lt hch
   have hlen : ((List.range len).map f).length = len := by simp
   refine ⟨(List.range len).map f, ⟨some a, cap, by rw [hlen], by rw [hlen]; exact hl, rfl, by rw [hlen]; unfold maxLen at hm; omega, fun _ => ⟨a, rfl, fun j p hj => ?_⟩⟩, ?_, ?_⟩
   ·rw [List.getElem?_map] at hj
    obtain ⟨i, hi, rfl⟩ := Option.map_eq_some_iff.1 hj
    have h1 := List.getElem?_eq_some_iff.1 hi
    simp only [List.getElem_range, List.length_range] at h1
    obtain ⟨h2, rfl⟩ := h1
    exact (hf j h2).1
   ·rw [hlen]
    have := hw ((len + (m - len)) * P.bytesOf e) (by
     unfold DataW.weights
     rw [ht]
     simp)
    have h3 : len * P.bytesOf e ≤ (len + (m - len)) * P.bytesOf e := Nat.mul_le_mul_right _ (by omega)
    unfold reachBytes at this
    omega
   ·intro y hy
    obtain ⟨i, hi, rfl⟩ := List.mem_map.1 hy
    exact (hf i (List.mem_range.1 hi)).2⟩
structure RdF (P : Program) (fs : List Field) (off : Nat) {α : Type} (d : Kd α) (ok : α → Prop) : Prop where
 read : ∀ {H : Type} {enc : TypeId × Value → H} {w : World} {fuel : Nat} {cs : List Value} {xs : List (DataW H × List MemPlace)}, (fs.mapM fun f => DataW.trod enc P w 0 (fun _ => true) true fuel f.type ((cs.drop f.offset).take (P.cellsOf f.type))) = some xs →
  (∀ n ∈ DataW.weightsEach P (fs.map (·.type)) (xs.map (·.1)), n ≤ reachBytes) → ∃ a, d.K w a ((cs.drop off).take d.sz) ∧ ok a
theorem rdf_one {P : Program} {f : Field} {off : Nat} {α : Type} {d : Kd α} {ok : α → Prop} (ho : f.offset = off) (hf : Rd P f.type d ok) : RdF P [f] off d ok := by
 constructor
 intro H enc w fuel cs xs h hw
 subst ho
 simp only [List.mapM_cons, List.mapM_nil] at h
 obtain ⟨x, hx, h⟩ := Option.bind_eq_some_iff.1 h
 simp at h
 subst h
 obtain ⟨a, hK, hok⟩ := hf.read hx (fun n hn => hw n (by simp [DataW.weightsEach]; exact hn))
 rw [hf.sz] at hK
 exact ⟨a, hK, hok⟩
theorem rdf_cons {P : Program} {f : Field} {fs : List Field} {off : Nat} {α β : Type} {d : Kd α} {d' : Kd β} {ok : α → Prop} {ok' : β → Prop} (ho : f.offset = off) (hf : Rd P f.type d ok) (hfs : RdF P fs (off + d.sz) d' ok') : RdF P (f :: fs) off (Kd.pair d d') (fun x => ok x.1 ∧ ok' x.2) := by
 constructor
 intro H enc w fuel cs xs h hw
 subst ho
 simp only [List.mapM_cons] at h
 obtain ⟨x, hx, h⟩ := Option.bind_eq_some_iff.1 h
 obtain ⟨ys, hys, h⟩ := Option.bind_eq_some_iff.1 h
 simp at h
 subst h
 obtain ⟨a, hK, hok⟩ := hf.read hx (fun n hn => hw n (by simp [DataW.weightsEach]; exact .inl hn))
 obtain ⟨b, hK', hok'⟩ := hfs.read hys (fun n hn => hw n (by simp only [List.map_cons, DataW.weightsEach]; exact List.mem_append.2 (.inr hn)))
 rw [hf.sz] at hK
 refine ⟨(a, b), ⟨_, _, ?_, hK, hK'⟩, hok, hok'⟩
 show List.take (d.sz + d'.sz) _ = _
 rw [List.take_add, List.drop_drop]
theorem rd_struct {P : Program} {t : TypeId} {fs : Array Field} {α β : Type} {d : Kd α} {ok : α → Prop} {f : β → α} (g : α → β) (hfg : ∀ y, f (g y) = y) (ht : P.underlying t = some (.struct fs)) (hs : P.cellsOf t = d.sz) (h : RdF P fs.toList 0 d ok) : Rd P t (Kd.iso d f) (fun x => ok (f x)) :=
 ⟨hs, fun {H enc w fuel cs x} hx hw => by
  cases fuel with
  | zero => simp [DataW.trod] at hx
  | succ n =>
   unfold DataW.trod at hx
   rw [ht] at hx
   simp only at hx
   split at hx
   ·rename_i hl
    obtain ⟨xs, hxs, he⟩ := Option.map_eq_some_iff.1 hx
    subst he
    obtain ⟨a, hK, hok⟩ := h.read hxs (fun k hk => hw k (by unfold DataW.weights; rw [ht]; exact hk))
    refine ⟨g a, ?_, by rw [hfg]; exact hok⟩
    show d.K w (f (g a)) cs
    rw [hfg]
    rwa [List.drop_zero, List.take_of_length_le (by omega)] at hK
   ·cases hx⟩
end Go.Proofs.YteonppgdmhakoaaDoor.Open
namespace Go.Proofs.YteonppgdmhakoaaDoor.PC
open Go.RowKit Go.Proofs.YteonppgdmhakoaaDoorW.PrintWords Go.Proofs.YteonppgdmhakoaaDoorW.PrintLast Go.Proofs.YteonppgdmhakoaaDoorW.PrintMore
set_option linter.unusedVariables false
set_option linter.unusedSimpArgs false
abbrev Bytes (bs : List Int) : Prop := ∀ x ∈ bs, 0 ≤ x ∧ x ≤ 255
def Ag (n : Nat) (bs bs' : List Int) : Prop := n ≤ bs'.length ∧ ∀ i, i < n → bs'.getD i 0 = bs.getD i 0
theorem Ag.mono {m n : Nat} {bs bs' : List Int} (h : Ag n bs bs') (hm : m ≤ n) : Ag m bs bs' := ⟨Nat.le_trans hm h.1, fun i hi => h.2 i (Nat.lt_of_lt_of_le hi hm)⟩
theorem Ag.take {n : Nat} {bs bs' : List Int} (h : Ag n bs bs') (hn : n ≤ bs.length) : bs'.take n = bs.take n := by
 have h1 := h.1
 apply List.ext_getElem
 ·rw [List.length_take, List.length_take]; omega
 ·intro i hi hj
  rw [List.length_take] at hi hj
  have := h.2 i (by omega)
  rw [List.getD_eq_getElem?_getD, List.getD_eq_getElem?_getD, List.getElem?_eq_getElem (by omega), List.getElem?_eq_getElem (by omega)] at this
  rw [List.getElem_take, List.getElem_take]
  exact this
abbrev Ex (α : Type) := Except (Int × Int) α
def bindE {α β : Type} (x : Ex α) (g : α → Ex β) : Ex β := match x with
 | .error e => .error e
 | .ok a => g a
structure LocR {α : Type} (p M : Nat) (f : List Int → Ex α) (e : α → Nat) : Prop where
 ok : ∀ bs a, Bytes bs → p ≤ bs.length → f bs = .ok a → p ≤ e a ∧ e a ≤ bs.length ∧ e a ≤ p + M
 same : ∀ bs a bs', Bytes bs → p ≤ bs.length → f bs = .ok a → Ag (e a) bs bs' → f bs' = .ok a
 cut : ∀ bs a bs', Bytes bs → p ≤ bs.length → f bs = .ok a → p ≤ bs'.length → bs'.length < e a → Ag bs'.length bs bs' → f bs' = .error (11, bs'.length)
 err : ∀ bs er, Bytes bs → p ≤ bs.length → f bs = .error er → er = (11, (bs.length : Int)) ∨ er = (10, 0) ∨ ∃ q k : Nat, er.2 = q ∧ k ≤ 5 ∧ p ≤ q ∧ q ≤ p + M ∧ q + k ≤ bs.length ∧ ∀ bs', Ag (q + k) bs bs' → f bs' = .error er
section
variable {α β σ : Type}
theorem LocR.congr {p M : Nat} {f f' : List Int → Ex α} {e : α → Nat} (h : LocR p M f e) (he : ∀ bs, f' bs = f bs) : LocR p M f' e := by
 obtain rfl : f' = f := funext he
 exact h
theorem LocR.mono {p M M' : Nat} {f : List Int → Ex α} {e : α → Nat} (h : LocR p M f e) (hM : M ≤ M') : LocR p M' f e where
 ok := fun bs a hb hp hf => ⟨(h.ok bs a hb hp hf).1, (h.ok bs a hb hp hf).2.1, by have := (h.ok bs a hb hp hf).2.2; omega⟩
 same := h.same
 cut := h.cut
 err := fun bs er hb hp hf => by
  rcases h.err bs er hb hp hf with r | r | ⟨q, k, r1, r2, r3, r4, r5⟩
  ·exact .inl r
  ·exact .inr (.inl r)
  ·exact .inr (.inr ⟨q, k, r1, r2, r3, by omega, r5⟩)
theorem LocR.bind {p M1 M2 : Nat} {f : List Int → Ex α} {e : α → Nat} {g : α → List Int → Ex β} {e2 : β → Nat} (hf : LocR p M1 f e) (P : α → Prop) (hP : ∀ bs a, Bytes bs → p ≤ bs.length → f bs = .ok a → P a) (hg : ∀ a, P a → LocR (e a) M2 (g a) e2) : LocR p (M1 + M2) (fun bs => bindE (f bs) fun a => g a bs) e2 where
 ok := fun bs b hb hp h => by
  cases hq : f bs with
  | error er => simp only [hq, bindE] at h; cases h
  | ok a =>
   simp only [hq, bindE] at h
   have h1 := hf.ok bs a hb hp hq
   have h2 := (hg a (hP bs a hb hp hq)).ok bs b hb h1.2.1 h
   omega
 same := fun bs b bs' hb hp h ha => by
  cases hq : f bs with
  | error er => simp only [hq, bindE] at h; cases h
  | ok a =>
   simp only [hq, bindE] at h
   have h1 := hf.ok bs a hb hp hq
   have h2 := (hg a (hP bs a hb hp hq)).ok bs b hb h1.2.1 h
   simp only [hf.same bs a bs' hb hp hq (ha.mono h2.1), bindE]
   exact (hg a (hP bs a hb hp hq)).same bs b bs' hb h1.2.1 h ha
 cut := fun bs b bs' hb hp h hp' hl ha => by
  cases hq : f bs with
  | error er => simp only [hq, bindE] at h; cases h
  | ok a =>
   simp only [hq, bindE] at h
   have h1 := hf.ok bs a hb hp hq
   rcases Nat.lt_or_ge bs'.length (e a) with c | c
   ·simp only [hf.cut bs a bs' hb hp hq hp' c ha, bindE]
   ·simp only [hf.same bs a bs' hb hp hq (ha.mono c), bindE]
    exact (hg a (hP bs a hb hp hq)).cut bs b bs' hb h1.2.1 h c hl ha
 err := fun bs er hb hp h => by
  cases hq : f bs with
  | error er1 =>
   simp only [hq, bindE] at h
   injection h with h
   subst h
   rcases hf.err bs er1 hb hp hq with r | r | ⟨q, k, r1, r2, r3, r4, r5, r6⟩
   ·exact .inl r
   ·exact .inr (.inl r)
   ·exact .inr (.inr ⟨q, k, r1, r2, r3, by omega, r5, fun bs' ha => by simp only [r6 bs' ha, bindE]⟩)
  | ok a =>
   simp only [hq, bindE] at h
   have h1 := hf.ok bs a hb hp hq
   rcases (hg a (hP bs a hb hp hq)).err bs er hb h1.2.1 h with r | r | ⟨q, k, r1, r2, r3, r4, r5, r6⟩
   ·exact .inl r
   ·exact .inr (.inl r)
   ·exact .inr (.inr ⟨q, k, r1, r2, by omega, by omega, r5, fun bs' ha => by
     simp only [hf.same bs a bs' hb hp hq (ha.mono (by omega)), bindE]
     exact r6 bs' ha⟩)
theorem LocR.field {p k : Nat} (X : List Int → α) (E : List Int → Int) (e : α → Nat) (he : ∀ bs, e (X bs) = p + k) (hX : ∀ bs bs', Ag (p + k) bs bs' → X bs' = X bs) (hE : ∀ bs bs', Ag (p + k) bs bs' → E bs' = E bs) (hk : (∀ bs, E bs = 0) ∨ k ≤ 5) : LocR p k (fun bs => if p + k ≤ bs.length then (if E bs = 0 then .ok (X bs) else .error (E bs, (p : Int))) else .error (11, (bs.length : Int))) e where
 ok := fun bs a hb hp h => by
  split at h
  ·split at h
   ·injection h with h; subst h; have := he bs; omega
   ·cases h
  ·cases h
 same := fun bs a bs' hb hp h ha => by
  split at h
  ·split at h
   ·rename_i c
    injection h with h; subst h
    rw [he bs] at ha
    have h1 := ha.1
    rw [if_pos h1, hE bs bs' ha, if_pos c, hX bs bs' ha]
   ·cases h
  ·cases h
 cut := fun bs a bs' hb hp h hp' hl ha => by
  split at h
  ·split at h
   ·injection h with h; subst h
    have := he bs
    rw [if_neg (by omega)]
   ·cases h
  ·cases h
 err := fun bs er hb hp h => by
  split at h
  ·rename_i c
   split at h
   ·cases h
   ·rename_i c1
    injection h with h
    subst h
    rcases hk with hk | hk
    ·exact absurd (hk bs) c1
    ·refine .inr (.inr ⟨p, k, rfl, hk, Nat.le_refl _, Nat.le_add_right _ _, c, fun bs' ha => ?_⟩)
     have h1 := ha.1
     rw [if_pos h1, hE bs bs' ha, if_neg c1]
  ·injection h with h
   subst h
   exact .inl rfl
end
end Go.Proofs.YteonppgdmhakoaaDoor.PC
namespace Go.Proofs.YteonppgdmhakoaaDoor.PC
open Go.RowKit Go.Proofs.YteonppgdmhakoaaDoorW.PrintWords Go.Proofs.YteonppgdmhakoaaDoor.Open
set_option linter.unusedVariables false
instance : Inhabited S50 := ⟨z50⟩
instance : Inhabited S46 := ⟨z46⟩
def Wf (a : Int) : Prop := (Lit.int .i64 a).wf = true
theorem rd3 : Rd Tryd.prog 3 (Kd.int .i64) Wf := rd_int Tryd.underlying3 (by kernel_rfl)
def Ok48 (xs : List Int) : Prop := xs.length * Tryd.prog.bytesOf 3 ≤ 140737488351232 ∧ ∀ a ∈ xs, Wf a
theorem rd48 : Rd Tryd.prog 48 (Kd.slice 3 (Kd.int .i64)) Ok48 := rd_slice Tryd.underlying48 (by kernel_rfl) rd3
def Ok50 (x : S50) : Prop := Wf x.f0 ∧ Wf x.f1 ∧ Wf x.f2 ∧ Wf x.f3 ∧ Wf x.f4 ∧ Ok48 x.f5 ∧ Ok48 x.f6
theorem rd50 : Rd Tryd.prog 50 k50 Ok50 := by
 refine rd_struct (ok := fun p : Int × Int × Int × Int × Int × List Int × List Int => Wf p.1 ∧ Wf p.2.1 ∧ Wf p.2.2.1 ∧ Wf p.2.2.2.1 ∧ Wf p.2.2.2.2.1 ∧ Ok48 p.2.2.2.2.2.1 ∧ Ok48 p.2.2.2.2.2.2) (d := Kd.pair (Kd.int .i64) (Kd.pair (Kd.int .i64) (Kd.pair (Kd.int .i64) (Kd.pair (Kd.int .i64) (Kd.pair (Kd.int .i64) (Kd.pair (Kd.slice 3 (Kd.int .i64)) (Kd.slice 3 (Kd.int .i64)))))))) (f := fun x : S50 => (x.f0, x.f1, x.f2, x.f3, x.f4, x.f5, x.f6)) (fun a => (⟨a.1, a.2.1, a.2.2.1, a.2.2.2.1, a.2.2.2.2.1, a.2.2.2.2.2.1, a.2.2.2.2.2.2⟩ : S50)) (fun y => rfl) Tryd.underlying50 (by kernel_rfl) ?_
 refine rdf_cons (ok := Wf) (ok' := fun p : Int × Int × Int × Int × List Int × List Int => Wf p.1 ∧ Wf p.2.1 ∧ Wf p.2.2.1 ∧ Wf p.2.2.2.1 ∧ Ok48 p.2.2.2.2.1 ∧ Ok48 p.2.2.2.2.2) rfl rd3 ?_
 refine rdf_cons (ok := Wf) (ok' := fun p : Int × Int × Int × List Int × List Int => Wf p.1 ∧ Wf p.2.1 ∧ Wf p.2.2.1 ∧ Ok48 p.2.2.2.1 ∧ Ok48 p.2.2.2.2) rfl rd3 ?_
 refine rdf_cons (ok := Wf) (ok' := fun p : Int × Int × List Int × List Int => Wf p.1 ∧ Wf p.2.1 ∧ Ok48 p.2.2.1 ∧ Ok48 p.2.2.2) rfl rd3 ?_
 refine rdf_cons (ok := Wf) (ok' := fun p : Int × List Int × List Int => Wf p.1 ∧ Ok48 p.2.1 ∧ Ok48 p.2.2) rfl rd3 ?_
 refine rdf_cons (ok := Wf) (ok' := fun p : List Int × List Int => Ok48 p.1 ∧ Ok48 p.2) rfl rd3 ?_
 refine rdf_cons (ok := Ok48) (ok' := Ok48) rfl rd48 ?_
 exact rdf_one rfl rd48
def Ok44 (xs : List S50) : Prop := xs.length * Tryd.prog.bytesOf 50 ≤ 140737488351232 ∧ ∀ a ∈ xs, Ok50 a
theorem rd44 : Rd Tryd.prog 44 (Kd.slice 50 k50) Ok44 := rd_slice Tryd.underlying44 (by kernel_rfl) rd50
def Ok46 (x : S46) : Prop := Wf x.f0 ∧ Wf x.f1 ∧ Wf x.f2 ∧ Ok44 x.f3
theorem rd46 : Rd Tryd.prog 46 k46 Ok46 := by
 refine rd_struct (ok := fun p : Int × Int × Int × List S50 => Wf p.1 ∧ Wf p.2.1 ∧ Wf p.2.2.1 ∧ Ok44 p.2.2.2) (d := Kd.pair (Kd.int .i64) (Kd.pair (Kd.int .i64) (Kd.pair (Kd.int .i64) (Kd.slice 50 k50)))) (f := fun x : S46 => (x.f0, x.f1, x.f2, x.f3)) (fun a => (⟨a.1, a.2.1, a.2.2.1, a.2.2.2⟩ : S46)) (fun y => rfl) Tryd.underlying46 (by kernel_rfl) ?_
 refine rdf_cons (ok := Wf) (ok' := fun p : Int × Int × List S50 => Wf p.1 ∧ Wf p.2.1 ∧ Ok44 p.2.2) rfl rd3 ?_
 refine rdf_cons (ok := Wf) (ok' := fun p : Int × List S50 => Wf p.1 ∧ Ok44 p.2) rfl rd3 ?_
 refine rdf_cons (ok := Wf) (ok' := Ok44) rfl rd3 ?_
 exact rdf_one rfl rd44
def Ok22 (xs : List S46) : Prop := xs.length * Tryd.prog.bytesOf 46 ≤ 140737488351232 ∧ ∀ a ∈ xs, Ok46 a
theorem rd22 : Rd Tryd.prog 22 (Kd.slice 46 k46) Ok22 := rd_slice Tryd.underlying22 (by kernel_rfl) rd46
def Ok24 (x : S24) : Prop := Wf x.f0 ∧ Ok22 x.f1
theorem rd24 : Rd Tryd.prog 24 k24 Ok24 := by
 refine rd_struct (ok := fun p : Int × List S46 => Wf p.1 ∧ Ok22 p.2) (d := Kd.pair (Kd.int .i64) (Kd.slice 46 k46)) (f := fun x : S24 => (x.f0, x.f1)) (fun a => (⟨a.1, a.2⟩ : S24)) (fun y => rfl) Tryd.underlying24 (by kernel_rfl) ?_
 refine rdf_cons (ok := Wf) (ok' := Ok22) rfl rd3 ?_
 exact rdf_one rfl rd22
set_option maxRecDepth 100000 in
theorem open24 {r : Reach} {W : World} {b : Nat} {v : Value} {x : S24} (ov : Value.okWide Tryd.prog W r b 24 v) (h : k24.K W x v.cells.toList) : ∃ A c, v = .agg #[.int .i64 x.f0, .slice A x.f1.length c] ∧ x.f1.length ≤ c ∧ Kd.C k46 W A x.f1.length x.f1 := by
 obtain ⟨cs, rfl, _⟩ := Go.WideShapes.okWide_struct Tryd.underlying24 ov
 obtain ⟨A1, c1, hcs, l1, g1⟩ := k24_open h
 obtain rfl : cs = #[.int .i64 x.f0, .slice A1 x.f1.length c1] := by cases cs; exact congrArg List.toArray hcs
 exact ⟨A1, c1, rfl, l1, g1⟩
end Go.Proofs.YteonppgdmhakoaaDoor.PC
namespace Go.Proofs.YteonppgdmhakoaaDoor.PC
open Go.RowKit Go.Proofs.YteonppgdmhakoaaDoorW.PrintWords Go.Proofs.YteonppgdmhakoaaDoorW.PrintLast Go.Proofs.YteonppgdmhakoaaDoorW.PrintMore
set_option linter.unusedVariables false
set_option linter.unusedSimpArgs false
instance decEq50 (a b : S50) : Decidable (a = b) := decidable_of_iff (a.f0 = b.f0 ∧ a.f1 = b.f1 ∧ a.f2 = b.f2 ∧ a.f3 = b.f3 ∧ a.f4 = b.f4 ∧ a.f5 = b.f5 ∧ a.f6 = b.f6) (by cases a; cases b; simp)
instance decEq46 (a b : S46) : Decidable (a = b) := decidable_of_iff (a.f0 = b.f0 ∧ a.f1 = b.f1 ∧ a.f2 = b.f2 ∧ a.f3 = b.f3) (by cases a; cases b; simp)
theorem rd50_get (xs : List S50) (i : Nat) (h : i < xs.length) : rd_T50 xs (i : Int) = xs[i] := by unfold rd_T50; rw [Int.toNat_natCast]; exact getD50 xs i h
theorem rd46_get (xs : List S46) (i : Nat) (h : i < xs.length) : rd_T46 xs (i : Int) = xs[i] := by unfold rd_T46; rw [Int.toNat_natCast]; exact getD46 xs i h
theorem eqints_l0 (xs ys : List Int) (h : xs.length = ys.length) (hl : xs.length ≤ 9223372036854775807) : ∀ (d i : Nat), xs.length - i = d → i ≤ xs.length → Ev (fun k => fugueref00_EqInts.l0 k xs ys (i : Int)) (decide (xs.drop i = ys.drop i)) := by
 intro d
 induction d with
 | zero =>
  intro i hd hi
  refine Ev.step (f := fun _ => some true) (fun k => by simp only [fugueref00_EqInts.l0]; rw [if_neg (by omega)]) ?_
  rw [List.drop_eq_nil_of_le (by omega), List.drop_eq_nil_of_le (by omega)]
  exact Ev.now _
 | succ d ih =>
  intro i hd hi
  have hx : i < xs.length := by omega
  have hy : i < ys.length := by omega
  have e1 : rd xs (i : Int) = xs[i] := rd_get xs i hx
  have e2 : rd ys (i : Int) = ys[i] := rd_get ys i hy
  refine Ev.step (fun k => by simp only [fugueref00_EqInts.l0]; rw [if_pos (by omega), if_pos (by omega), if_pos (by omega), e1, e2, wrap_in (by omega) (by omega)]) ?_
  rw [List.drop_eq_getElem_cons hx, List.drop_eq_getElem_cons hy]
  by_cases he : xs[i] = ys[i]
  ·simp only [if_pos he]
   rw [show decide (xs[i] :: xs.drop (i + 1) = ys[i] :: ys.drop (i + 1)) = decide (xs.drop (i + 1) = ys.drop (i + 1)) from decide_eq_decide.2 ⟨fun e => by injection e, fun e => by rw [he, e]⟩]
   exact ih (i + 1) (by omega) (by omega)
  ·simp only [if_neg he]
   rw [decide_eq_false (fun e => he (by injection e))]
   exact Ev.now _
theorem eqints_ev (xs ys : List Int) (hl : xs.length ≤ 9223372036854775807) : Ev (fun k => fugueref00_EqInts.f k xs ys) (decide (xs = ys)) := by
 unfold fugueref00_EqInts.f
 by_cases h : xs.length = ys.length
 ·simp only [if_pos (show (xs.length : Int) = (ys.length : Int) by omega)]
  simpa using eqints_l0 xs ys h hl xs.length 0 (by omega) (by omega)
 ·simp only [if_neg (show ¬ (xs.length : Int) = (ys.length : Int) by omega)]
  rw [decide_eq_false (fun he => h (by rw [he]))]
  exact Ev.now _
def Fit50 (x : S50) : Prop := x.f5.length ≤ 9223372036854775807 ∧ x.f6.length ≤ 9223372036854775807
theorem eqinstr_ev (x y : S50) (h : Fit50 x) : Ev (fun k => fugueref00_EqInstr.f k x.f0 x.f1 x.f2 x.f3 x.f4 x.f5 x.f6 y.f0 y.f1 y.f2 y.f3 y.f4 y.f5 y.f6) (decide (x = y)) := by
 obtain ⟨a0, a1, a2, a3, a4, a5, a6⟩ := x
 obtain ⟨b0, b1, b2, b3, b4, b5, b6⟩ := y
 unfold fugueref00_EqInstr.f
 simp only
 by_cases c0 : a0 = b0
 case neg => simp only [if_neg c0]; rw [decide_eq_false (fun e => c0 (by injection e))]; exact Ev.now _
 by_cases c1 : a1 = b1
 case neg => simp only [if_pos c0, if_neg c1]; rw [decide_eq_false (fun e => c1 (by injection e))]; exact Ev.now _
 by_cases c2 : a2 = b2
 case neg => simp only [if_pos c0, if_pos c1, if_neg c2]; rw [decide_eq_false (fun e => c2 (by injection e))]; exact Ev.now _
 by_cases c3 : a3 = b3
 case neg => simp only [if_pos c0, if_pos c1, if_pos c2, if_neg c3]; rw [decide_eq_false (fun e => c3 (by injection e))]; exact Ev.now _
 by_cases c4 : a4 = b4
 case neg => simp only [if_pos c0, if_pos c1, if_pos c2, if_pos c3, if_neg c4]; rw [decide_eq_false (fun e => c4 (by injection e))]; exact Ev.now _
 simp only [if_pos c0, if_pos c1, if_pos c2, if_pos c3, if_pos c4]
 refine Ev.bind (eqints_ev a5 b5 h.1) ?_
 by_cases c5 : a5 = b5
 case neg => simp only [decide_eq_false c5, Bool.false_eq_true, if_false]; rw [decide_eq_false (fun e => c5 (by injection e))]; exact Ev.now _
 simp only [decide_eq_true c5, if_true]
 refine Ev.bind (eqints_ev a6 b6 h.2) ?_
 subst c0 c1 c2 c3 c4 c5
 rw [show decide ((⟨a0, a1, a2, a3, a4, a5, a6⟩ : S50) = ⟨a0, a1, a2, a3, a4, a5, b6⟩) = decide (a6 = b6) from by simp]
 exact Ev.now _
theorem eqcode_l0 (xs ys : List S50) (h : xs.length = ys.length) (hl : xs.length ≤ 9223372036854775807) (hf : ∀ x ∈ xs, Fit50 x) : ∀ (d i : Nat), xs.length - i = d → i ≤ xs.length → Ev (fun k => fugueref00_EqCode.l0 k xs ys (i : Int)) (decide (xs.drop i = ys.drop i)) := by
 intro d
 induction d with
 | zero =>
  intro i hd hi
  refine Ev.step (f := fun _ => some true) (fun k => by simp only [fugueref00_EqCode.l0]; rw [if_neg (by omega)]) ?_
  rw [List.drop_eq_nil_of_le (by omega), List.drop_eq_nil_of_le (by omega)]
  exact Ev.now _
 | succ d ih =>
  intro i hd hi
  have hx : i < xs.length := by omega
  have hy : i < ys.length := by omega
  have e1 : rd_T50 xs (i : Int) = xs[i] := rd50_get xs i hx
  have e2 : rd_T50 ys (i : Int) = ys[i] := rd50_get ys i hy
  refine Ev.step (fun k => by simp only [fugueref00_EqCode.l0]; rw [if_pos (by omega), if_pos (by omega), if_pos (by omega), e1, e2, wrap_in (by omega) (by omega)]) ?_
  refine Ev.bind (eqinstr_ev xs[i] ys[i] (hf _ (List.getElem_mem hx))) ?_
  rw [List.drop_eq_getElem_cons hx, List.drop_eq_getElem_cons hy]
  by_cases he : xs[i] = ys[i]
  ·simp only [decide_eq_true he, if_true]
   rw [show decide (xs[i] :: xs.drop (i + 1) = ys[i] :: ys.drop (i + 1)) = decide (xs.drop (i + 1) = ys.drop (i + 1)) from decide_eq_decide.2 ⟨fun e => by injection e, fun e => by rw [he, e]⟩]
   exact ih (i + 1) (by omega) (by omega)
  ·simp only [decide_eq_false he, Bool.false_eq_true, if_false]
   rw [decide_eq_false (fun e => he (by injection e))]
   exact Ev.now _
theorem eqcode_ev (xs ys : List S50) (hl : xs.length ≤ 9223372036854775807) (hf : ∀ x ∈ xs, Fit50 x) : Ev (fun k => fugueref00_EqCode.f k xs ys) (decide (xs = ys)) := by
 unfold fugueref00_EqCode.f
 by_cases h : xs.length = ys.length
 ·simp only [if_pos (show (xs.length : Int) = (ys.length : Int) by omega)]
  simpa using eqcode_l0 xs ys h hl hf xs.length 0 (by omega) (by omega)
 ·simp only [if_neg (show ¬ (xs.length : Int) = (ys.length : Int) by omega)]
  rw [decide_eq_false (fun he => h (by rw [he]))]
  exact Ev.now _
def Fit46 (x : S46) : Prop := x.f3.length ≤ 9223372036854775807 ∧ ∀ y ∈ x.f3, Fit50 y
theorem eqfunc_ev (x y : S46) (h : Fit46 x) : Ev (fun k => fugueref00_EqFunc.f k x.f0 x.f1 x.f2 x.f3 y.f0 y.f1 y.f2 y.f3) (decide (x = y)) := by
 obtain ⟨a0, a1, a2, a3⟩ := x
 obtain ⟨b0, b1, b2, b3⟩ := y
 unfold fugueref00_EqFunc.f
 simp only
 by_cases c0 : a0 = b0
 case neg => simp only [if_neg c0]; rw [decide_eq_false (fun e => c0 (by injection e))]; exact Ev.now _
 by_cases c1 : a1 = b1
 case neg => simp only [if_pos c0, if_neg c1]; rw [decide_eq_false (fun e => c1 (by injection e))]; exact Ev.now _
 by_cases c2 : a2 = b2
 case neg => simp only [if_pos c0, if_pos c1, if_neg c2]; rw [decide_eq_false (fun e => c2 (by injection e))]; exact Ev.now _
 simp only [if_pos c0, if_pos c1, if_pos c2]
 refine Ev.bind (eqcode_ev a3 b3 h.1 h.2) ?_
 subst c0 c1 c2
 rw [show decide ((⟨a0, a1, a2, a3⟩ : S46) = ⟨a0, a1, a2, b3⟩) = decide (a3 = b3) from by simp]
 exact Ev.now _
theorem eqfuncs_l0 (xs ys : List S46) (h : xs.length = ys.length) (hl : xs.length ≤ 9223372036854775807) (hf : ∀ x ∈ xs, Fit46 x) : ∀ (d i : Nat), xs.length - i = d → i ≤ xs.length → Ev (fun k => fugueref00_EqFuncs.l0 k xs ys (i : Int)) (decide (xs.drop i = ys.drop i)) := by
 intro d
 induction d with
 | zero =>
  intro i hd hi
  refine Ev.step (f := fun _ => some true) (fun k => by simp only [fugueref00_EqFuncs.l0]; rw [if_neg (by omega)]) ?_
  rw [List.drop_eq_nil_of_le (by omega), List.drop_eq_nil_of_le (by omega)]
  exact Ev.now _
 | succ d ih =>
  intro i hd hi
  have hx : i < xs.length := by omega
  have hy : i < ys.length := by omega
  have e1 : rd_T46 xs (i : Int) = xs[i] := rd46_get xs i hx
  have e2 : rd_T46 ys (i : Int) = ys[i] := rd46_get ys i hy
  refine Ev.step (fun k => by simp only [fugueref00_EqFuncs.l0]; rw [if_pos (by omega), if_pos (by omega), if_pos (by omega), e1, e2, wrap_in (by omega) (by omega)]) ?_
  refine Ev.bind (eqfunc_ev xs[i] ys[i] (hf _ (List.getElem_mem hx))) ?_
  rw [List.drop_eq_getElem_cons hx, List.drop_eq_getElem_cons hy]
  by_cases he : xs[i] = ys[i]
  ·simp only [decide_eq_true he, if_true]
   rw [show decide (xs[i] :: xs.drop (i + 1) = ys[i] :: ys.drop (i + 1)) = decide (xs.drop (i + 1) = ys.drop (i + 1)) from decide_eq_decide.2 ⟨fun e => by injection e, fun e => by rw [he, e]⟩]
   exact ih (i + 1) (by omega) (by omega)
  ·simp only [decide_eq_false he, Bool.false_eq_true, if_false]
   rw [decide_eq_false (fun e => he (by injection e))]
   exact Ev.now _
theorem eqfuncs_ev (xs ys : List S46) (hl : xs.length ≤ 9223372036854775807) (hf : ∀ x ∈ xs, Fit46 x) : Ev (fun k => fugueref00_EqFuncs.f k xs ys) (decide (xs = ys)) := by
 unfold fugueref00_EqFuncs.f
 by_cases h : xs.length = ys.length
 ·simp only [if_pos (show (xs.length : Int) = (ys.length : Int) by omega)]
  simpa using eqfuncs_l0 xs ys h hl hf xs.length 0 (by omega) (by omega)
 ·simp only [if_neg (show ¬ (xs.length : Int) = (ys.length : Int) by omega)]
  rw [decide_eq_false (fun he => h (by rw [he]))]
  exact Ev.now _
theorem eqprog_ev (G : Int) (fs : List S46) (H : Int) (gs : List S46) (hl : fs.length ≤ 9223372036854775807) (hf : ∀ x ∈ fs, Fit46 x) : Ev (fun k => fugueref00_EqProgram.f k G fs H gs) (decide (G = H ∧ fs = gs)) := by
 unfold fugueref00_EqProgram.f
 by_cases c0 : G = H
 case neg => simp only [if_neg c0]; rw [decide_eq_false (fun e => c0 e.1)]; exact Ev.now _
 simp only [if_pos c0]
 refine Ev.bind (eqfuncs_ev fs gs hl hf) ?_
 rw [show decide (G = H ∧ fs = gs) = decide (fs = gs) from by rw [decide_eq_decide]; exact ⟨fun e => e.2, fun e => ⟨c0, e⟩⟩]
 exact Ev.now _
theorem partsOf_le (op : Nat) : (partsOf op).length ≤ 3 := by
 rcases op with _ | _ | _ | _ | _ | _ | _ | _ | _ | _ | _ | _ | _ | _ | _ | _ | _ | _ | op <;> first | decide | (simp [partsOf])
structure Wk (Wz w0 w : World) (g : Nat) (G : Int) (A : Option Addr) (m c : Nat) (locs err : Int) : Prop where
 blk : w.heap[g]? = some (.cells #[.int .i64 G, .slice A m c, .int .i64 locs, .int .i64 err] 55 (0, 0))
 bel : Below Wz.heap.size Wz w
 kp : KeepBut w0 w g none
 ge : Wz.heap.size ≤ g
section
variable {Wz w0 w w' : World} {g : Nat} {G : Int} {A : Option Addr} {m c : Nat} {locs err : Int}
theorem Wk.below (h : Wk Wz w0 w g G A m c locs err) (hb : Below w.heap.size w w') : Wk Wz w0 w' g G A m c locs err :=
 ⟨kZ h.blk hb, h.bel.trans (hb.mono h.bel.size), KeepBut.trans h.kp (KeepBut.of_below hb g none) (.inl rfl), h.ge⟩
theorem Wk.drew (h : Wk Wz w0 w g G A m c locs err) : Wk Wz w0 w.drew g G A m c locs err := h.below (below_drew (Below.refl _ _))
theorem Wk.set2 (h : Wk Wz w0 w g G A m c locs err) (x : Int) : Wk Wz w0 (w.setCell ⟨g, 2, none⟩ (.int .i64 x)) g G A m c x err :=
 ⟨(blk_set h.blk 2 _).trans rfl, sZ h.bel h.ge, h.kp.set_ 2 _, h.ge⟩
theorem Wk.set3 (h : Wk Wz w0 w g G A m c locs err) (x : Int) : Wk Wz w0 (w.setCell ⟨g, 3, none⟩ (.int .i64 x)) g G A m c locs x :=
 ⟨(blk_set h.blk 3 _).trans rfl, sZ h.bel h.ge, h.kp.set_ 3 _, h.ge⟩
theorem Wk.at_ (h : Wk Wz w0 w g G A m c locs err) : Wk Wz w w g G A m c locs err := ⟨h.blk, h.bel, KeepBut.refl _ _ _, h.ge⟩
theorem Wk.trans {locs' err' : Int} (h : Wk Wz w0 w g G A m c locs err) (k : Wk Wz w w' g G A m c locs' err') : Wk Wz w0 w' g G A m c locs' err' := ⟨k.blk, k.bel, KeepBut.trans h.kp k.kp (.inl rfl), k.ge⟩
theorem Wk.c0 (h : Wk Wz w0 w g G A m c locs err) : w.cell? ⟨g, 0, none⟩ = some (.int .i64 G) := (bZ h.blk 0).trans rfl
theorem Wk.c1 (h : Wk Wz w0 w g G A m c locs err) : w.cell? ⟨g, 1, none⟩ = some (.slice A m c) := (bZ h.blk 1).trans rfl
theorem Wk.c2 (h : Wk Wz w0 w g G A m c locs err) : w.cell? ⟨g, 2, none⟩ = some (.int .i64 locs) := (bZ h.blk 2).trans rfl
theorem Wk.c3 (h : Wk Wz w0 w g G A m c locs err) : w.cell? ⟨g, 3, none⟩ = some (.int .i64 err) := (bZ h.blk 3).trans rfl
def mustE (ok : Bool) (e err : Int) : Int := if ok = true then err else if err = 0 then e else err
theorem wmust_any (ok : Bool) (e : Int) (h : Wk Wz w0 w g G A m c locs err) : Calls Tryd.prog 34 #[.pointer (some ⟨g, 0, none⟩), .bool ok, .int .i64 e] w fun r w' => r = .returned (.tuple #[]) ∧ Wk Wz w0 w' g G A m c locs (mustE ok e err) := by
 have HH := Az.mk h
 have h3 := h.c3
 have hf3 := fZ h.blk 3
 clear h
 cases ok with
 | true =>
  go_enter Tryd.func34, Tryd.ntmps34
  go_wp2_with fail
  go_end0
  exact ⟨rfl, HH.out⟩
 | false =>
  by_cases e0 : err = 0
  ·have eb : (err == 0) = true := beq_iff_eq.2 e0
   have em : mustE false e err = e := by unfold mustE; rw [if_neg (by decide), if_pos e0]
   rw [em]
   clear e0 em
   go_enter Tryd.func34, Tryd.ntmps34
   go_wp2_with fail
   go_end0
   exact ⟨rfl, HH.out.set3 _⟩
  ·have eb : (err == 0) = false := beq_eq_false_iff_ne.2 e0
   have em : mustE false e err = err := by unfold mustE; rw [if_neg (by decide), if_neg e0]
   rw [em]
   clear e0 em
   go_enter Tryd.func34, Tryd.ntmps34
   go_wp2_with fail
   go_end0
   exact ⟨rfl, HH.out⟩
set_option maxHeartbeats 1600000 in
theorem wvar_any (P R V : Int) (A3 : Option Addr) (n3 c3 : Nat) (v : Int) (h : Wk Wz w0 w g G A m c locs err) : Calls Tryd.prog 64 #[.pointer (some ⟨g, 0, none⟩), .agg #[.int .i64 P, .int .i64 R, .int .i64 V, .slice A3 n3 c3], .int .i64 v] w fun r w' => r = .returned (.tuple #[]) ∧ Wk Wz w0 w' g G A m c locs (mustE (varB V v) 13 err) := by
 have HH := Az.mk h
 have HB := Az.mk (Below.refl w.heap.size w)
 clear h
 by_cases v0 : 0 ≤ v
 ·have eb : varB V v = decide (v < V) := by unfold varB; rw [decide_eq_true v0, Bool.true_and]
  have v0b : decide (0 ≤ v) = true := decide_eq_true v0
  rw [eb]
  clear eb v0
  go_enter Tryd.func64, Tryd.ntmps64
  go_wp2_with ((with_reducible refine gate_dst (N := 4) rfl ?_); refine box_event ?hg (N := 4) ?hd (cs := #[.int .i64 P, .int .i64 R, .int .i64 V, .slice A3 n3 c3]) (t := 46) ?hr ?_; (case hd => rfl); (case hg => rfl); (case hr => first | (go_simp; done) | (go_simp; rfl)); intro g4 hg w4 hbox hb; have G4 : Az (w.heap.size ≤ g4) := ⟨by have := HB.out.size; omega⟩; replace HB := Az.mk (HB.out.trans (hb.mono HB.out.size)); replace HH := Az.mk (HH.out.below hb); have BK4 := Az.mk hbox; clear hg hbox hb; have z2 : w4.cell? ⟨g4, 2, none⟩ = some (.int .i64 V) := (bZ BK4.out 2).trans rfl)
  refine (wmust_any _ 13 HH.out).mono ?_
  rintro e w' ⟨rfl, hW⟩
  have HW := Az.mk hW
  clear hW
  go_wp2_with fail
  go_end0
  exact ⟨rfl, HW.out⟩
 ·have eb : varB V v = false := by unfold varB; rw [decide_eq_false v0, Bool.false_and]
  have v0b : decide (0 ≤ v) = false := decide_eq_false v0
  rw [eb]
  clear eb v0
  go_enter Tryd.func64, Tryd.ntmps64
  go_wp2_with ((with_reducible refine gate_dst (N := 4) rfl ?_); refine box_event ?hg (N := 4) ?hd (cs := #[.int .i64 P, .int .i64 R, .int .i64 V, .slice A3 n3 c3]) (t := 46) ?hr ?_; (case hd => rfl); (case hg => rfl); (case hr => first | (go_simp; done) | (go_simp; rfl)); intro g4 hg w4 hbox hb; have G4 : Az (w.heap.size ≤ g4) := ⟨by have := HB.out.size; omega⟩; replace HB := Az.mk (HB.out.trans (hb.mono HB.out.size)); replace HH := Az.mk (HH.out.below hb); have BK4 := Az.mk hbox; clear hg hbox hb)
  refine (wmust_any _ 13 HH.out).mono ?_
  rintro e w' ⟨rfl, hW⟩
  have HW := Az.mk hW
  clear hW
  go_wp2_with fail
  go_end0
  exact ⟨rfl, HW.out⟩
def numB_ (G : Int) (m : Nat) (n : Int) (p v : Int) : Bool := if p = 99 then decide (1 ≤ v) && decide (v ≤ 8) else if p = 102 then decide (0 ≤ v) && decide (v < 8) else if p = 103 then decide (0 ≤ v) && decide (v < G) else if p = 70 then decide (0 ≤ v) && decide (v < (m : Int)) else if p = 74 then decide (0 ≤ v) && decide (v < n) else true
def numC_ (p : Int) : Int := if p = 99 then 17 else if p = 102 then 17 else if p = 103 then 18 else if p = 70 then 14 else 16
set_option maxHeartbeats 8000000 in
theorem wnum_any (p v n : Int) (h : Wk Wz w0 w g G A m c locs err) : Calls Tryd.prog 66 #[.pointer (some ⟨g, 0, none⟩), .int .u8 p, .int .i64 v, .int .i64 n] w fun r w' => r = .returned (.tuple #[]) ∧ Wk Wz w0 w' g G A m c locs (mustE (numB_ G m n p v) (numC_ p) err) := by
 have HH := Az.mk h
 have h0 := h.c0
 have h1 := h.c1
 clear h
 by_cases c99 : p = 99
 ·have eB : numB_ G m n p v = (decide (1 ≤ v) && decide (v ≤ 8)) := by unfold numB_; rw [if_pos c99]
  have eC : numC_ p = 17 := by unfold numC_; rw [if_pos c99]
  rw [eB, eC]
  subst c99
  clear eB eC
  by_cases v0 : 1 ≤ v
  ·have v0b : decide (1 ≤ v) = true := decide_eq_true v0
   rw [v0b, Bool.true_and]
   clear v0
   go_enter Tryd.func66, Tryd.ntmps66
   go_wp2_with fail
   refine (wmust_any _ _ HH.out).mono ?_
   rintro e w' ⟨rfl, hW⟩
   have HW := Az.mk hW
   clear hW
   go_wp2_with fail
   go_end0
   exact ⟨rfl, HW.out⟩
  ·have v0b : decide (1 ≤ v) = false := decide_eq_false v0
   rw [v0b, Bool.false_and]
   clear v0
   go_enter Tryd.func66, Tryd.ntmps66
   go_wp2_with fail
   refine (wmust_any _ _ HH.out).mono ?_
   rintro e w' ⟨rfl, hW⟩
   have HW := Az.mk hW
   clear hW
   go_wp2_with fail
   go_end0
   exact ⟨rfl, HW.out⟩
 by_cases c102 : p = 102
 ·have eB : numB_ G m n p v = (decide (0 ≤ v) && decide (v < 8)) := by unfold numB_; rw [if_neg c99, if_pos c102]
  have eC : numC_ p = 17 := by unfold numC_; rw [if_neg c99, if_pos c102]
  rw [eB, eC]
  subst c102
  clear eB eC c99
  by_cases v0 : 0 ≤ v
  ·have v0b : decide (0 ≤ v) = true := decide_eq_true v0
   rw [v0b, Bool.true_and]
   clear v0
   go_enter Tryd.func66, Tryd.ntmps66
   go_wp2_with fail
   refine (wmust_any _ _ HH.out).mono ?_
   rintro e w' ⟨rfl, hW⟩
   have HW := Az.mk hW
   clear hW
   go_wp2_with fail
   go_end0
   exact ⟨rfl, HW.out⟩
  ·have v0b : decide (0 ≤ v) = false := decide_eq_false v0
   rw [v0b, Bool.false_and]
   clear v0
   go_enter Tryd.func66, Tryd.ntmps66
   go_wp2_with fail
   refine (wmust_any _ _ HH.out).mono ?_
   rintro e w' ⟨rfl, hW⟩
   have HW := Az.mk hW
   clear hW
   go_wp2_with fail
   go_end0
   exact ⟨rfl, HW.out⟩
 by_cases c103 : p = 103
 ·have eB : numB_ G m n p v = (decide (0 ≤ v) && decide (v < G)) := by unfold numB_; rw [if_neg c99, if_neg c102, if_pos c103]
  have eC : numC_ p = 18 := by unfold numC_; rw [if_neg c99, if_neg c102, if_pos c103]
  rw [eB, eC]
  subst c103
  clear eB eC c99 c102
  by_cases v0 : 0 ≤ v
  ·have v0b : decide (0 ≤ v) = true := decide_eq_true v0
   rw [v0b, Bool.true_and]
   clear v0
   go_enter Tryd.func66, Tryd.ntmps66
   go_wp2_with fail
   refine (wmust_any _ _ HH.out).mono ?_
   rintro e w' ⟨rfl, hW⟩
   have HW := Az.mk hW
   clear hW
   go_wp2_with fail
   go_end0
   exact ⟨rfl, HW.out⟩
  ·have v0b : decide (0 ≤ v) = false := decide_eq_false v0
   rw [v0b, Bool.false_and]
   clear v0
   go_enter Tryd.func66, Tryd.ntmps66
   go_wp2_with fail
   refine (wmust_any _ _ HH.out).mono ?_
   rintro e w' ⟨rfl, hW⟩
   have HW := Az.mk hW
   clear hW
   go_wp2_with fail
   go_end0
   exact ⟨rfl, HW.out⟩
 by_cases c70 : p = 70
 ·have eB : numB_ G m n p v = (decide (0 ≤ v) && decide (v < (m : Int))) := by unfold numB_; rw [if_neg c99, if_neg c102, if_neg c103, if_pos c70]
  have eC : numC_ p = 14 := by unfold numC_; rw [if_neg c99, if_neg c102, if_neg c103, if_pos c70]
  rw [eB, eC]
  subst c70
  clear eB eC c99 c102 c103
  by_cases v0 : 0 ≤ v
  ·have v0b : decide (0 ≤ v) = true := decide_eq_true v0
   rw [v0b, Bool.true_and]
   clear v0
   go_enter Tryd.func66, Tryd.ntmps66
   go_wp2_with fail
   refine (wmust_any _ _ HH.out).mono ?_
   rintro e w' ⟨rfl, hW⟩
   have HW := Az.mk hW
   clear hW
   go_wp2_with fail
   go_end0
   exact ⟨rfl, HW.out⟩
  ·have v0b : decide (0 ≤ v) = false := decide_eq_false v0
   rw [v0b, Bool.false_and]
   clear v0
   go_enter Tryd.func66, Tryd.ntmps66
   go_wp2_with fail
   refine (wmust_any _ _ HH.out).mono ?_
   rintro e w' ⟨rfl, hW⟩
   have HW := Az.mk hW
   clear hW
   go_wp2_with fail
   go_end0
   exact ⟨rfl, HW.out⟩
 by_cases c74 : p = 74
 ·have eB : numB_ G m n p v = (decide (0 ≤ v) && decide (v < n)) := by unfold numB_; rw [if_neg c99, if_neg c102, if_neg c103, if_neg c70, if_pos c74]
  have eC : numC_ p = 16 := by unfold numC_; rw [if_neg c99, if_neg c102, if_neg c103, if_neg c70]
  rw [eB, eC]
  subst c74
  clear eB eC c99 c102 c103 c70
  by_cases v0 : 0 ≤ v
  ·have v0b : decide (0 ≤ v) = true := decide_eq_true v0
   rw [v0b, Bool.true_and]
   clear v0
   go_enter Tryd.func66, Tryd.ntmps66
   go_wp2_with fail
   refine (wmust_any _ _ HH.out).mono ?_
   rintro e w' ⟨rfl, hW⟩
   have HW := Az.mk hW
   clear hW
   go_wp2_with fail
   go_end0
   exact ⟨rfl, HW.out⟩
  ·have v0b : decide (0 ≤ v) = false := decide_eq_false v0
   rw [v0b, Bool.false_and]
   clear v0
   go_enter Tryd.func66, Tryd.ntmps66
   go_wp2_with fail
   refine (wmust_any _ _ HH.out).mono ?_
   rintro e w' ⟨rfl, hW⟩
   have HW := Az.mk hW
   clear hW
   go_wp2_with fail
   go_end0
   exact ⟨rfl, HW.out⟩
 have eB : numB_ G m n p v = true := by unfold numB_; rw [if_neg c99, if_neg c102, if_neg c103, if_neg c70, if_neg c74]
 rw [eB]
 have c99b : (p == 99) = false := beq_eq_false_iff_ne.2 c99
 have c102b : (p == 102) = false := beq_eq_false_iff_ne.2 c102
 have c103b : (p == 103) = false := beq_eq_false_iff_ne.2 c103
 have c70b : (p == 70) = false := beq_eq_false_iff_ne.2 c70
 have c74b : (p == 74) = false := beq_eq_false_iff_ne.2 c74
 clear eB c99 c102 c103 c70 c74
 go_enter Tryd.func66, Tryd.ntmps66
 go_wp2_with fail
 go_end0
 exact ⟨rfl, HH.out⟩
end
def chOf : PK → Nat
 | .R => 82
 | .S => 83
 | .T => 84
 | .int => 105
 | .fields => 99
 | .field => 102
 | .glob => 103
 | .func => 70
 | .jump => 74
 | .args => 65
 | .rets => 66
 | .vals => 86
def prS (op : Int) : ByteArray := ⟨((partsOf op.toNat).map fun k => UInt8.ofNat (chOf k)).toArray⟩
theorem prS_out {op : Int} (h : ¬ (1 ≤ op ∧ op ≤ 17)) : prS op = ⟨#[]⟩ := by
 unfold prS
 have e : partsOf op.toNat = [] := by
  unfold partsOf
  by_cases h0 : op < 1
  ·rw [show op.toNat = 0 by omega]; rfl
  ·rw [List.getD_eq_getElem?_getD, List.getElem?_eq_none (by show 18 ≤ op.toNat; omega)]; rfl
 rw [e]; rfl
def strs : Array Value := #[.string { data := #[] }, .string { data := #[82, 105] }, .string { data := #[82, 83] }, .string { data := #[82, 83, 84] }, .string { data := #[82, 83, 84] }, .string { data := #[82, 83] }, .string { data := #[82, 99] }, .string { data := #[82, 83, 102] }, .string { data := #[82, 83, 102] }, .string { data := #[82, 103] }, .string { data := #[83, 103] }, .string { data := #[70, 65, 66] }, .string { data := #[83] }, .string { data := #[74] }, .string { data := #[83, 74] }, .string { data := #[86] }, .string { data := #[82] }, .string { data := #[82, 83, 84] }]
theorem strs_at (q : Nat) (h : q < 18) : strs[q]? = some (.string (prS (q : Int))) := by
 rcases q with _ | _ | _ | _ | _ | _ | _ | _ | _ | _ | _ | _ | _ | _ | _ | _ | _ | _ | q <;> first | rfl | omega
set_option maxHeartbeats 8000000 in
set_option maxRecDepth 100000 in
theorem parts_any (op : Int) (w : World) : Calls Tryd.prog 63 #[.int .i64 op] w fun e w' => e = .returned (.string (prS op)) ∧ Below w.heap.size w w' := by
 by_cases h1 : op < 1
 ·have c1 : decide (op < 1) = true := decide_eq_true h1
  rw [prS_out (by omega)]
  clear h1
  go_enter Tryd.func63, Tryd.ntmps63
  go_wp2
  go_ret
  exact ⟨rfl, lZ (Below.refl _ _) _⟩
 ·have c1 : decide (op < 1) = false := decide_eq_false h1
  by_cases h2 : 17 < op
  ·have c2 : decide (17 < op) = true := decide_eq_true h2
   rw [prS_out (by omega)]
   clear h1 h2
   go_enter Tryd.func63, Tryd.ntmps63
   go_wp2
   go_ret
   exact ⟨rfl, lZ (Below.refl _ _) _⟩
  ·have c2 : decide (17 < op) = false := decide_eq_false h2
   obtain ⟨q, rfl⟩ := Int.eq_ofNat_of_zero_le (show 0 ≤ op by omega)
   have q0 : (0 : Int) ≤ (q : Int) := Int.natCast_nonneg q
   have q1 : (q : Int) < 18 := by omega
   have hq : q < 18 := by omega
   have hc : (w.alloc (Obj.cells strs 125)).cell? ⟨w.heap.size, q, none⟩ = some (.string (prS (q : Int))) := (bZ (blk_new w _) q).trans (strs_at q hq)
   unfold strs at hc
   clear h1 h2 hq
   go_enter Tryd.func63, Tryd.ntmps63
   go_wp2
   go_ret
   exact ⟨rfl, lZ (Below.refl _ _) _⟩
def fugueref01_Parts.f (a0 : Int) : Option ByteArray := some (prS a0)
theorem fugueref01_Parts.calls (a0 : Int) (r : ByteArray) (w : World) (h : fugueref01_Parts.f a0 = some r) : Calls Tryd.prog 63 #[.int .i64 a0] w fun e w' => e = .returned (.string r) ∧ Below w.heap.size w w' := by
 obtain rfl := Option.some.inj h
 exact parts_any a0 w
def nmS (op p : Int) : Bool := (partsOf op.toNat).any fun k => ((chOf k : Nat) : Int) == p
end Go.Proofs.YteonppgdmhakoaaDoor.PC
namespace Go.Proofs.YteonppgdmhakoaaDoor.PC
open Go.RowKit Go.Proofs.YteonppgdmhakoaaDoorW.PrintWords Go.Proofs.YteonppgdmhakoaaDoorW.PrintLast Go.Proofs.YteonppgdmhakoaaDoorW.PrintMore
attribute [local go_sem] max2_int min2_int max_two min_two max_three min_three max_four min_four
set_option linter.unusedVariables false
set_option linter.unusedSimpArgs false
def fugueref01_names.l0 : Nat → Int → ByteArray → Int → Option (Bool)
 | 0, _, _, _ => none
 | k + 1, x1, x5, x6 => if x6 < (x5.size : Int) then (if 0 ≤ x6 then (if (bt x5 x6) = x1 then (some true) else (fugueref01_names.l0 k x1 x5 (wrap64 (x6 + 1)))) else (none)) else (some false)
def fugueref01_names.f (k : Nat) (a0 : Int) (a1 : Int) : Option (Bool) := (fugueref01_Parts.f a0).bind fun t237 => (fugueref01_names.l0 k a1 t237 0)
set_option maxHeartbeats 8000000 in
set_option maxRecDepth 100000 in
theorem fugueref01_names.calls (k : Nat) (a0 : Int) (a1 : Int) (r : Bool) (w : World) (h : fugueref01_names.f k a0 a1 = some r) :
  Calls Tryd.prog 107 #[.int .i64 a0, .int .u8 a1] w fun e w' => e = .returned (.bool r) ∧ Below w.heap.size w w' := by
 have HB := Az.mk (Below.refl w.heap.size w)
 have H : ((fugueref01_Parts.f a0).bind fun t237 => (fugueref01_names.l0 k a1 t237 0)) = some r := h
 clear h
 replace H := Option.bind_eq_some_iff.mp H
 obtain ⟨t237, A30, H⟩ := H
 replace H : (fugueref01_names.l0 k a1 t237 0) = some r := H
 have A3 := Az.mk A30
 clear A30
 have H' := Az.mk H
 clear H
 go_enter Tryd.func107, Tryd.ntmps107
 go_wp2_with (first | ((with_reducible refine gate_callee (f := 63) rfl ?_); refine goesL_ (some 8) rfl rfl Tryd.func63 (by kernel_rfl) rfl #[.int .i64 a0] rfl (by (try simp only [List.map_toArray, List.map_cons, List.map_nil]); first | done | rfl | (simp only [List.length_drop, List.length_take]; rfl)) ?_; (with_reducible refine (fugueref01_Parts.calls a0 t237 _ A3.out).mono ?_); rintro e w4 ⟨rfl, hb⟩; refine ⟨_, rfl, ?_⟩; replace HB := Az.mk (tZ (by repeat (first | (with_reducible first | exact HB.out | apply lZ | apply pZ | apply dZ) | exact HB.out)) hb); (try clear hb); (try clear hb2); (try clear hk); (try clear hi)))
 go_loopg [6] k (fun kq v6 w' => ∃ (x6_1 : Int), v6 = .int .i64 x6_1 ∧ Az (fugueref01_names.l0 kq a1 t237 x6_1 = some r) ∧ Az (kq ≤ k) ∧ Az (Below w.heap.size w w'))
 case atStart => exact ⟨(0), (by first | rfl | (simp; done) | (simp [*]; done)), H', ⟨Nat.le_refl _⟩, ⟨by repeat (first | (with_reducible first | exact HB.out | apply lZ | apply pZ | apply dZ) | exact HB.out)⟩⟩
 case round =>
  clear H'
  try clear c1
  try clear p2
  obtain ⟨x6_1, rfl, HA, HK1, HB⟩ := hrel
  cases gk with
  | zero => exact absurd HA.out (by simp [fugueref01_names.l0])
  | succ k1 =>
   have H := HA.out
   clear HA
   simp only [fugueref01_names.l0] at H
   by_cases c5 : x6_1 < (t237.size : Int)
   ·rw [if_pos c5] at H
    have c5b0 : decide (x6_1 < (t237.size : Int)) = true := decide_eq_true c5
    clear c5
    by_cases c6 : 0 ≤ x6_1
    ·rw [if_pos c6] at H
     have c6b0 : decide (0 ≤ x6_1) = true := decide_eq_true c6
     clear c6
     by_cases c8 : (bt t237 x6_1) = a1
     ·rw [if_pos c8] at H
      have c8b0 : ((bt t237 x6_1) == a1) = true := beq_iff_eq.mpr c8
      have c8b1 : ((bt t237 x6_1) != a1) = false := bne_eq_false_iff_eq.mpr c8
      clear c8
      obtain rfl := Option.some.inj H
      have p7 : 0 ≤ (x6_1 : Int) := of_decide_eq_true (by first | (with_reducible assumption) | assumption)
      have q7 : x6_1 < (t237.size : Int) := of_decide_eq_true (by first | (with_reducible assumption) | assumption)
      have hx7 := bt_at t237 x6_1
      replace p7 := eq_true p7
      replace q7 := eq_true q7
      go_wp2
      go_ret
      exact ⟨by first | rfl | (simp [errW_none, errW_some] <;> rfl) | (simp [*, errW_none, errW_some] <;> rfl), by repeat (first | (with_reducible first | exact HB.out | apply lZ | apply pZ | apply dZ) | exact HB.out)⟩
     ·rw [if_neg c8] at H
      have c8b0 : ((bt t237 x6_1) == a1) = false := beq_eq_false_iff_ne.mpr c8
      have c8b1 : ((bt t237 x6_1) != a1) = true := bne_iff_ne.mpr c8
      have H' := Az.mk H
      clear H
      have p7 : 0 ≤ (x6_1 : Int) := of_decide_eq_true (by first | (with_reducible assumption) | assumption)
      have q7 : x6_1 < (t237.size : Int) := of_decide_eq_true (by first | (with_reducible assumption) | assumption)
      have hx7 := bt_at t237 x6_1
      replace p7 := eq_true p7
      replace q7 := eq_true q7
      go_wp2
      go_roundg k1
      case measure => have := HK1.out; omega
      case rel => exact ⟨(wrap64 (x6_1 + 1)), (by first | rfl | (simp; done) | (simp [*]; done)), H', ⟨by have := HK1.out; omega⟩, ⟨by repeat (first | (with_reducible first | exact HB.out | apply lZ | apply pZ | apply dZ) | exact HB.out)⟩⟩
    ·rw [if_neg c6] at H
     exact absurd H (by simp)
   ·rw [if_neg c5] at H
    have c5b0 : decide (x6_1 < (t237.size : Int)) = false := decide_eq_false c5
    clear c5
    obtain rfl := Option.some.inj H
    go_wp2
    go_ret
    exact ⟨by first | rfl | (simp [errW_none, errW_some] <;> rfl) | (simp [*, errW_none, errW_some] <;> rfl), by repeat (first | (with_reducible first | exact HB.out | apply lZ | apply pZ | apply dZ) | exact HB.out)⟩
end Go.Proofs.YteonppgdmhakoaaDoor.PC
namespace Go.Proofs.YteonppgdmhakoaaDoor.PC
open Go.RowKit Go.Proofs.YteonppgdmhakoaaDoorW.PrintWords Go.Proofs.YteonppgdmhakoaaDoorW.PrintLast Go.Proofs.YteonppgdmhakoaaDoorW.PrintMore
set_option linter.unusedVariables false
set_option linter.unusedSimpArgs false
theorem bt_map (ks : List PK) (i : Nat) (h : i < ks.length) : bt ⟨(ks.map fun k => UInt8.ofNat (chOf k)).toArray⟩ (i : Int) = ((chOf ks[i] : Nat) : Int) := by
 have hc : ∀ k : PK, chOf k < 256 := fun k => by cases k <;> decide
 have hl : ((i : Int)).toNat < (ByteArray.mk (ks.map fun k => UInt8.ofNat (chOf k)).toArray).size := by rw [Int.toNat_natCast]; show i < (ks.map _).toArray.size; simpa using h
 have e : ∀ (j : Nat) (hj : j < (ByteArray.mk (ks.map fun k => UInt8.ofNat (chOf k)).toArray).size) (hk : j < ks.length), (ByteArray.mk (ks.map fun k => UInt8.ofNat (chOf k)).toArray)[j]'hj = UInt8.ofNat (chOf ks[j]) := fun j hj hk => by
  show (ks.map fun k => UInt8.ofNat (chOf k)).toArray[j]'_ = _
  simp
 unfold bt
 rw [dif_pos hl]
 have e2 := e ((i : Int)).toNat hl (by rw [Int.toNat_natCast]; exact h)
 rw [e2]
 simp only [Int.toNat_natCast, UInt8.toNat_ofNat']
 rw [Nat.mod_eq_of_lt (hc _)]
theorem names_l0 (p : Int) (ks : List PK) (hl : ks.length ≤ 100) : ∀ (d i : Nat), ks.length - i = d → i ≤ ks.length → Ev (fun k => fugueref01_names.l0 k p ⟨(ks.map fun k => UInt8.ofNat (chOf k)).toArray⟩ (i : Int)) ((ks.drop i).any fun k => ((chOf k : Nat) : Int) == p) := by
 have hs : (ByteArray.mk (ks.map fun k => UInt8.ofNat (chOf k)).toArray).size = ks.length := by show (ks.map _).toArray.size = _; simp
 intro d
 induction d with
 | zero =>
  intro i hd hi
  refine Ev.step (f := fun _ => some false) (fun k => by simp only [fugueref01_names.l0]; rw [if_neg (by rw [hs]; omega)]) ?_
  rw [List.drop_eq_nil_of_le (by omega)]
  exact Ev.now _
 | succ d ih =>
  intro i hd hi
  have hx : i < ks.length := by omega
  refine Ev.step (fun k => by simp only [fugueref01_names.l0]; rw [if_pos (by rw [hs]; omega), if_pos (by omega), bt_map ks i hx, wrap_in (by omega) (by omega)]) ?_
  rw [List.drop_eq_getElem_cons hx, List.any_cons]
  by_cases he : ((chOf ks[i] : Nat) : Int) = p
  ·simp only [if_pos he]
   rw [beq_iff_eq.2 he, Bool.true_or]
   exact Ev.now _
  ·simp only [if_neg he]
   rw [beq_eq_false_iff_ne.2 he, Bool.false_or]
   exact ih (i + 1) (by omega) (by omega)
theorem names_any (op p : Int) (w : World) : Calls Tryd.prog 107 #[.int .i64 op, .int .u8 p] w fun e w' => e = .returned (.bool (nmS op p)) ∧ Below w.heap.size w w' := by
 have h := names_l0 p (partsOf op.toNat) (by have := partsOf_le op.toNat; omega) (partsOf op.toNat).length 0 (by omega) (by omega)
 obtain ⟨k, hk⟩ := h.rounds
 refine fugueref01_names.calls k op p (nmS op p) w ?_
 unfold fugueref01_names.f
 show (some (prS op)).bind _ = _
 rw [Option.bind_some]
 exact hk
section
variable {P : Program} {ops : Array Oper} {Q : Exit → Act → World → Prop}
theorem merge4 {o1 o2 o3 o4 : Oper} {rest : List Oper} {a : Act} {w : World} (v4 : Value) (R : World → Prop)
  (hk : ∀ rest' : List Oper, (∀ x y z w', R w' → wpList P ops Q rest' ((((a.put o1.dst x).put o2.dst y).put o3.dst z).put o4.dst v4) w') → wpList P ops Q (o1 :: o2 :: o3 :: o4 :: rest') a w)
  (h : ∀ x y z w', R w' → wpList P ops Q rest ((((a.put o1.dst x).put o2.dst y).put o3.dst z).put o4.dst v4) w') : wpList P ops Q (o1 :: o2 :: o3 :: o4 :: rest) a w := hk rest h
end
section
variable {P : Program} {ops : Array Oper} {Q : Exit → Act → World → Prop}
end
def plainN (N : Int → Bool) (x : S50) : Bool :=
 (x.f1 == 0 || N 82) && ((x.f2 == 0 || N 83) && ((x.f3 == 0 || N 84) && ((x.f4 == 0 || (((((N 105 || N 99) || N 102) || N 103) || N 70) || N 74)) && (((x.f5.length : Int) == 0 || (N 65 || N 86)) && ((x.f6.length : Int) == 0 || N 66)))))
set_option maxHeartbeats 16000000 in
set_option maxRecDepth 100000 in
theorem rplain_gen (N : Int → Bool) (f0 f1 f2 f3 f4 : Int) (A5 : Option Addr) (n5 c5 : Nat) (A6 : Option Addr) (n6 c6 : Nat) (w : World) (hN : ∀ p w, Calls Tryd.prog 107 #[.int .i64 f0, .int .u8 p] w fun e w' => e = .returned (.bool (N p)) ∧ Below w.heap.size w w') :
  Calls Tryd.prog 94 #[.agg #[.int .i64 f0, .int .i64 f1, .int .i64 f2, .int .i64 f3, .int .i64 f4, .slice A5 n5 c5, .slice A6 n6 c6]] w fun e w' =>
   e = .returned (.bool ((f1 == 0 || N 82) && ((f2 == 0 || N 83) && ((f3 == 0 || N 84) && ((f4 == 0 || (((((N 105 || N 99) || N 102) || N 103) || N 70) || N 74)) && (((n5 : Int) == 0 || (N 65 || N 86)) && ((n6 : Int) == 0 || N 66))))))) ∧ Below w.heap.size w w' := by
 have HN := Az.mk hN
 have HB := Az.mk (Below.refl w.heap.size w)
 clear hN
 obtain ⟨a1, ha1⟩ : ∃ b, N 105 = b := ⟨_, rfl⟩
 obtain ⟨a2, ha2⟩ : ∃ b, (a1 || N 99) = b := ⟨_, rfl⟩
 obtain ⟨a3, ha3⟩ : ∃ b, (a2 || N 102) = b := ⟨_, rfl⟩
 obtain ⟨a4, ha4⟩ : ∃ b, (a3 || N 103) = b := ⟨_, rfl⟩
 obtain ⟨a5, ha5⟩ : ∃ b, (a4 || N 70) = b := ⟨_, rfl⟩
 obtain ⟨a6, ha6⟩ : ∃ b, (a5 || N 74) = b := ⟨_, rfl⟩
 obtain ⟨r1, hr1⟩ : ∃ b, N 65 = b := ⟨_, rfl⟩
 obtain ⟨r2, hr2⟩ : ∃ b, (r1 || N 86) = b := ⟨_, rfl⟩
 obtain ⟨Z, hz1, hz2, hz3, hz4, hz5, hz6⟩ : ∃ Z : Nat → Bool, (f1 == 0) = Z 1 ∧ (f2 == 0) = Z 2 ∧ (f3 == 0) = Z 3 ∧ (f4 == 0) = Z 4 ∧ ((n5 : Int) == 0) = Z 5 ∧ ((n6 : Int) == 0) = Z 6 := ⟨fun i => match i with | 1 => (f1 == 0) | 2 => (f2 == 0) | 3 => (f3 == 0) | 4 => (f4 == 0) | 5 => ((n5 : Int) == 0) | _ => ((n6 : Int) == 0), rfl, rfl, rfl, rfl, rfl, rfl⟩
 obtain ⟨k1, hk1⟩ : ∃ b, (Z 1 || N 82) = b := ⟨_, rfl⟩
 obtain ⟨k2, hk2⟩ : ∃ b, (Z 2 || N 83) = b := ⟨_, rfl⟩
 obtain ⟨k3, hk3⟩ : ∃ b, (Z 3 || N 84) = b := ⟨_, rfl⟩
 obtain ⟨k4, hk4⟩ : ∃ b, (Z 4 || a6) = b := ⟨_, rfl⟩
 obtain ⟨k5, hk5⟩ : ∃ b, (Z 5 || r2) = b := ⟨_, rfl⟩
 obtain ⟨k6, hk6⟩ : ∃ b, (Z 6 || N 66) = b := ⟨_, rfl⟩
 rw [ha1, ha2, ha3, ha4, ha5, ha6, hr1, hr2, hz1, hz2, hz3, hz4, hz5, hz6, hk1, hk2, hk3, hk4, hk5, hk6]
 have Ea1 := Az.mk ha1
 clear ha1
 have Ea2 := Az.mk ha2
 clear ha2
 have Ea3 := Az.mk ha3
 clear ha3
 have Ea4 := Az.mk ha4
 clear ha4
 have Ea5 := Az.mk ha5
 clear ha5
 have Ea6 := Az.mk ha6
 clear ha6
 have Er1 := Az.mk hr1
 clear hr1
 have Er2 := Az.mk hr2
 clear hr2
 have Ek1 := Az.mk hk1
 clear hk1
 have Ek2 := Az.mk hk2
 clear hk2
 have Ek3 := Az.mk hk3
 clear hk3
 have Ek4 := Az.mk hk4
 clear hk4
 have Ek5 := Az.mk hk5
 clear hk5
 have Ek6 := Az.mk hk6
 clear hk6
 go_enter Tryd.func94, Tryd.ntmps94
 go_wp2_with ((with_reducible refine gate_dst (N := 1) rfl ?_); refine box_event ?hg (N := 1) ?hd (cs := #[.int .i64 f0, .int .i64 f1, .int .i64 f2, .int .i64 f3, .int .i64 f4, .slice A5 n5 c5, .slice A6 n6 c6]) (t := 50) ?hr ?_; (case hd => rfl); (case hg => rfl); (case hr => first | (go_simp; done) | (go_simp; rfl)); intro g1 hg w1 hbox hb; have G1 : Az (w.heap.size ≤ g1) := ⟨by have := HB.out.size; omega⟩; replace HB := Az.mk (HB.out.trans (hb.mono HB.out.size)); have BK1 := Az.mk hbox; clear hg hbox hb; have q0 : w1.cell? ⟨g1, 0, none⟩ = some (.int .i64 f0) := (bZ BK1.out 0).trans rfl; have q1 : w1.cell? ⟨g1, 1, none⟩ = some (.int .i64 f1) := (bZ BK1.out 1).trans rfl; have q2 : w1.cell? ⟨g1, 2, none⟩ = some (.int .i64 f2) := (bZ BK1.out 2).trans rfl; have q3 : w1.cell? ⟨g1, 3, none⟩ = some (.int .i64 f3) := (bZ BK1.out 3).trans rfl; have q4 : w1.cell? ⟨g1, 4, none⟩ = some (.int .i64 f4) := (bZ BK1.out 4).trans rfl; have q5 : w1.cell? ⟨g1, 5, none⟩ = some (.slice A5 n5 c5) := (bZ BK1.out 5).trans rfl; have q6 : w1.cell? ⟨g1, 6, none⟩ = some (.slice A6 n6 c6) := (bZ BK1.out 6).trans rfl)
 refine (HN.out 105 _).mono ?_
 rintro e wB1 ⟨rfl, hb⟩
 clear q0 q1 q2 q3 q4 q5 q6
 replace HB := Az.mk (HB.out.trans (hb.mono HB.out.size))
 replace BK1 := Az.mk (kZ BK1.out hb)
 clear hb
 have q0 : wB1.cell? ⟨g1, 0, none⟩ = some (.int .i64 f0) := (bZ BK1.out 0).trans rfl
 have q1 : wB1.cell? ⟨g1, 1, none⟩ = some (.int .i64 f1) := (bZ BK1.out 1).trans rfl
 have q2 : wB1.cell? ⟨g1, 2, none⟩ = some (.int .i64 f2) := (bZ BK1.out 2).trans rfl
 have q3 : wB1.cell? ⟨g1, 3, none⟩ = some (.int .i64 f3) := (bZ BK1.out 3).trans rfl
 have q4 : wB1.cell? ⟨g1, 4, none⟩ = some (.int .i64 f4) := (bZ BK1.out 4).trans rfl
 have q5 : wB1.cell? ⟨g1, 5, none⟩ = some (.slice A5 n5 c5) := (bZ BK1.out 5).trans rfl
 have q6 : wB1.cell? ⟨g1, 6, none⟩ = some (.slice A6 n6 c6) := (bZ BK1.out 6).trans rfl
 rw [Ea1.out]
 go_wp2_with (first | ((with_reducible refine gate_dst (N := 9) rfl ?_); refine merge4 (.bool a2) (fun w' => Below w.heap.size w w' ∧ w'.heap[g1]? = some (.cells #[.int .i64 f0, .int .i64 f1, .int .i64 f2, .int .i64 f3, .int .i64 f4, .slice A5 n5 c5, .slice A6 n6 c6] 50 (0, 0))) ?hk ?_; (case hk => intro rest' hj; simp only [Act.put, pn] at hj; cases a1; (focus (go_wp2_with fail; refine (HN.out 99 _).mono ?_; rintro e wB101 ⟨rfl, hb⟩; clear q0 q1 q2 q3 q4 q5 q6; replace HB := Az.mk (HB.out.trans (hb.mono HB.out.size)); replace BK1 := Az.mk (kZ BK1.out hb); clear hb; have q0 : wB101.cell? ⟨g1, 0, none⟩ = some (.int .i64 f0) := (bZ BK1.out 0).trans rfl; have q1 : wB101.cell? ⟨g1, 1, none⟩ = some (.int .i64 f1) := (bZ BK1.out 1).trans rfl; have q2 : wB101.cell? ⟨g1, 2, none⟩ = some (.int .i64 f2) := (bZ BK1.out 2).trans rfl; have q3 : wB101.cell? ⟨g1, 3, none⟩ = some (.int .i64 f3) := (bZ BK1.out 3).trans rfl; have q4 : wB101.cell? ⟨g1, 4, none⟩ = some (.int .i64 f4) := (bZ BK1.out 4).trans rfl; have q5 : wB101.cell? ⟨g1, 5, none⟩ = some (.slice A5 n5 c5) := (bZ BK1.out 5).trans rfl; have q6 : wB101.cell? ⟨g1, 6, none⟩ = some (.slice A6 n6 c6) := (bZ BK1.out 6).trans rfl; obtain rfl : a2 = N 99 := (by simp [← Ea2.out]); go_wp2_with fail; exact hj _ _ _ _ ⟨HB.out, BK1.out⟩)); (focus (obtain rfl : a2 = true := (by simp [← Ea2.out]); go_wp2_with fail; exact hj _ _ _ _ ⟨HB.out, BK1.out⟩))); intro x_ y_ z_ wM1 hR; simp only [Act.put, pn]; clear q0 q1 q2 q3 q4 q5 q6; clear HB BK1; have HB := Az.mk hR.1; have BK1 := Az.mk hR.2; clear hR; have q0 : wM1.cell? ⟨g1, 0, none⟩ = some (.int .i64 f0) := (bZ BK1.out 0).trans rfl; have q1 : wM1.cell? ⟨g1, 1, none⟩ = some (.int .i64 f1) := (bZ BK1.out 1).trans rfl; have q2 : wM1.cell? ⟨g1, 2, none⟩ = some (.int .i64 f2) := (bZ BK1.out 2).trans rfl; have q3 : wM1.cell? ⟨g1, 3, none⟩ = some (.int .i64 f3) := (bZ BK1.out 3).trans rfl; have q4 : wM1.cell? ⟨g1, 4, none⟩ = some (.int .i64 f4) := (bZ BK1.out 4).trans rfl; have q5 : wM1.cell? ⟨g1, 5, none⟩ = some (.slice A5 n5 c5) := (bZ BK1.out 5).trans rfl; have q6 : wM1.cell? ⟨g1, 6, none⟩ = some (.slice A6 n6 c6) := (bZ BK1.out 6).trans rfl) | ((with_reducible refine gate_dst (N := 14) rfl ?_); refine merge4 (.bool a3) (fun w' => Below w.heap.size w w' ∧ w'.heap[g1]? = some (.cells #[.int .i64 f0, .int .i64 f1, .int .i64 f2, .int .i64 f3, .int .i64 f4, .slice A5 n5 c5, .slice A6 n6 c6] 50 (0, 0))) ?hk ?_; (case hk => intro rest' hj; simp only [Act.put, pn] at hj; cases a2; (focus (go_wp2_with fail; refine (HN.out 102 _).mono ?_; rintro e wB102 ⟨rfl, hb⟩; clear q0 q1 q2 q3 q4 q5 q6; replace HB := Az.mk (HB.out.trans (hb.mono HB.out.size)); replace BK1 := Az.mk (kZ BK1.out hb); clear hb; have q0 : wB102.cell? ⟨g1, 0, none⟩ = some (.int .i64 f0) := (bZ BK1.out 0).trans rfl; have q1 : wB102.cell? ⟨g1, 1, none⟩ = some (.int .i64 f1) := (bZ BK1.out 1).trans rfl; have q2 : wB102.cell? ⟨g1, 2, none⟩ = some (.int .i64 f2) := (bZ BK1.out 2).trans rfl; have q3 : wB102.cell? ⟨g1, 3, none⟩ = some (.int .i64 f3) := (bZ BK1.out 3).trans rfl; have q4 : wB102.cell? ⟨g1, 4, none⟩ = some (.int .i64 f4) := (bZ BK1.out 4).trans rfl; have q5 : wB102.cell? ⟨g1, 5, none⟩ = some (.slice A5 n5 c5) := (bZ BK1.out 5).trans rfl; have q6 : wB102.cell? ⟨g1, 6, none⟩ = some (.slice A6 n6 c6) := (bZ BK1.out 6).trans rfl; obtain rfl : a3 = N 102 := (by simp [← Ea3.out]); go_wp2_with fail; exact hj _ _ _ _ ⟨HB.out, BK1.out⟩)); (focus (obtain rfl : a3 = true := (by simp [← Ea3.out]); go_wp2_with fail; exact hj _ _ _ _ ⟨HB.out, BK1.out⟩))); intro x_ y_ z_ wM2 hR; simp only [Act.put, pn]; clear q0 q1 q2 q3 q4 q5 q6; clear HB BK1; have HB := Az.mk hR.1; have BK1 := Az.mk hR.2; clear hR; have q0 : wM2.cell? ⟨g1, 0, none⟩ = some (.int .i64 f0) := (bZ BK1.out 0).trans rfl; have q1 : wM2.cell? ⟨g1, 1, none⟩ = some (.int .i64 f1) := (bZ BK1.out 1).trans rfl; have q2 : wM2.cell? ⟨g1, 2, none⟩ = some (.int .i64 f2) := (bZ BK1.out 2).trans rfl; have q3 : wM2.cell? ⟨g1, 3, none⟩ = some (.int .i64 f3) := (bZ BK1.out 3).trans rfl; have q4 : wM2.cell? ⟨g1, 4, none⟩ = some (.int .i64 f4) := (bZ BK1.out 4).trans rfl; have q5 : wM2.cell? ⟨g1, 5, none⟩ = some (.slice A5 n5 c5) := (bZ BK1.out 5).trans rfl; have q6 : wM2.cell? ⟨g1, 6, none⟩ = some (.slice A6 n6 c6) := (bZ BK1.out 6).trans rfl) | ((with_reducible refine gate_dst (N := 19) rfl ?_); refine merge4 (.bool a4) (fun w' => Below w.heap.size w w' ∧ w'.heap[g1]? = some (.cells #[.int .i64 f0, .int .i64 f1, .int .i64 f2, .int .i64 f3, .int .i64 f4, .slice A5 n5 c5, .slice A6 n6 c6] 50 (0, 0))) ?hk ?_; (case hk => intro rest' hj; simp only [Act.put, pn] at hj; cases a3; (focus (go_wp2_with fail; refine (HN.out 103 _).mono ?_; rintro e wB103 ⟨rfl, hb⟩; clear q0 q1 q2 q3 q4 q5 q6; replace HB := Az.mk (HB.out.trans (hb.mono HB.out.size)); replace BK1 := Az.mk (kZ BK1.out hb); clear hb; have q0 : wB103.cell? ⟨g1, 0, none⟩ = some (.int .i64 f0) := (bZ BK1.out 0).trans rfl; have q1 : wB103.cell? ⟨g1, 1, none⟩ = some (.int .i64 f1) := (bZ BK1.out 1).trans rfl; have q2 : wB103.cell? ⟨g1, 2, none⟩ = some (.int .i64 f2) := (bZ BK1.out 2).trans rfl; have q3 : wB103.cell? ⟨g1, 3, none⟩ = some (.int .i64 f3) := (bZ BK1.out 3).trans rfl; have q4 : wB103.cell? ⟨g1, 4, none⟩ = some (.int .i64 f4) := (bZ BK1.out 4).trans rfl; have q5 : wB103.cell? ⟨g1, 5, none⟩ = some (.slice A5 n5 c5) := (bZ BK1.out 5).trans rfl; have q6 : wB103.cell? ⟨g1, 6, none⟩ = some (.slice A6 n6 c6) := (bZ BK1.out 6).trans rfl; obtain rfl : a4 = N 103 := (by simp [← Ea4.out]); go_wp2_with fail; exact hj _ _ _ _ ⟨HB.out, BK1.out⟩)); (focus (obtain rfl : a4 = true := (by simp [← Ea4.out]); go_wp2_with fail; exact hj _ _ _ _ ⟨HB.out, BK1.out⟩))); intro x_ y_ z_ wM3 hR; simp only [Act.put, pn]; clear q0 q1 q2 q3 q4 q5 q6; clear HB BK1; have HB := Az.mk hR.1; have BK1 := Az.mk hR.2; clear hR; have q0 : wM3.cell? ⟨g1, 0, none⟩ = some (.int .i64 f0) := (bZ BK1.out 0).trans rfl; have q1 : wM3.cell? ⟨g1, 1, none⟩ = some (.int .i64 f1) := (bZ BK1.out 1).trans rfl; have q2 : wM3.cell? ⟨g1, 2, none⟩ = some (.int .i64 f2) := (bZ BK1.out 2).trans rfl; have q3 : wM3.cell? ⟨g1, 3, none⟩ = some (.int .i64 f3) := (bZ BK1.out 3).trans rfl; have q4 : wM3.cell? ⟨g1, 4, none⟩ = some (.int .i64 f4) := (bZ BK1.out 4).trans rfl; have q5 : wM3.cell? ⟨g1, 5, none⟩ = some (.slice A5 n5 c5) := (bZ BK1.out 5).trans rfl; have q6 : wM3.cell? ⟨g1, 6, none⟩ = some (.slice A6 n6 c6) := (bZ BK1.out 6).trans rfl) | ((with_reducible refine gate_dst (N := 24) rfl ?_); refine merge4 (.bool a5) (fun w' => Below w.heap.size w w' ∧ w'.heap[g1]? = some (.cells #[.int .i64 f0, .int .i64 f1, .int .i64 f2, .int .i64 f3, .int .i64 f4, .slice A5 n5 c5, .slice A6 n6 c6] 50 (0, 0))) ?hk ?_; (case hk => intro rest' hj; simp only [Act.put, pn] at hj; cases a4; (focus (go_wp2_with fail; refine (HN.out 70 _).mono ?_; rintro e wB104 ⟨rfl, hb⟩; clear q0 q1 q2 q3 q4 q5 q6; replace HB := Az.mk (HB.out.trans (hb.mono HB.out.size)); replace BK1 := Az.mk (kZ BK1.out hb); clear hb; have q0 : wB104.cell? ⟨g1, 0, none⟩ = some (.int .i64 f0) := (bZ BK1.out 0).trans rfl; have q1 : wB104.cell? ⟨g1, 1, none⟩ = some (.int .i64 f1) := (bZ BK1.out 1).trans rfl; have q2 : wB104.cell? ⟨g1, 2, none⟩ = some (.int .i64 f2) := (bZ BK1.out 2).trans rfl; have q3 : wB104.cell? ⟨g1, 3, none⟩ = some (.int .i64 f3) := (bZ BK1.out 3).trans rfl; have q4 : wB104.cell? ⟨g1, 4, none⟩ = some (.int .i64 f4) := (bZ BK1.out 4).trans rfl; have q5 : wB104.cell? ⟨g1, 5, none⟩ = some (.slice A5 n5 c5) := (bZ BK1.out 5).trans rfl; have q6 : wB104.cell? ⟨g1, 6, none⟩ = some (.slice A6 n6 c6) := (bZ BK1.out 6).trans rfl; obtain rfl : a5 = N 70 := (by simp [← Ea5.out]); go_wp2_with fail; exact hj _ _ _ _ ⟨HB.out, BK1.out⟩)); (focus (obtain rfl : a5 = true := (by simp [← Ea5.out]); go_wp2_with fail; exact hj _ _ _ _ ⟨HB.out, BK1.out⟩))); intro x_ y_ z_ wM4 hR; simp only [Act.put, pn]; clear q0 q1 q2 q3 q4 q5 q6; clear HB BK1; have HB := Az.mk hR.1; have BK1 := Az.mk hR.2; clear hR; have q0 : wM4.cell? ⟨g1, 0, none⟩ = some (.int .i64 f0) := (bZ BK1.out 0).trans rfl; have q1 : wM4.cell? ⟨g1, 1, none⟩ = some (.int .i64 f1) := (bZ BK1.out 1).trans rfl; have q2 : wM4.cell? ⟨g1, 2, none⟩ = some (.int .i64 f2) := (bZ BK1.out 2).trans rfl; have q3 : wM4.cell? ⟨g1, 3, none⟩ = some (.int .i64 f3) := (bZ BK1.out 3).trans rfl; have q4 : wM4.cell? ⟨g1, 4, none⟩ = some (.int .i64 f4) := (bZ BK1.out 4).trans rfl; have q5 : wM4.cell? ⟨g1, 5, none⟩ = some (.slice A5 n5 c5) := (bZ BK1.out 5).trans rfl; have q6 : wM4.cell? ⟨g1, 6, none⟩ = some (.slice A6 n6 c6) := (bZ BK1.out 6).trans rfl) | ((with_reducible refine gate_dst (N := 29) rfl ?_); refine merge4 (.bool a6) (fun w' => Below w.heap.size w w' ∧ w'.heap[g1]? = some (.cells #[.int .i64 f0, .int .i64 f1, .int .i64 f2, .int .i64 f3, .int .i64 f4, .slice A5 n5 c5, .slice A6 n6 c6] 50 (0, 0))) ?hk ?_; (case hk => intro rest' hj; simp only [Act.put, pn] at hj; cases a5; (focus (go_wp2_with fail; refine (HN.out 74 _).mono ?_; rintro e wB105 ⟨rfl, hb⟩; clear q0 q1 q2 q3 q4 q5 q6; replace HB := Az.mk (HB.out.trans (hb.mono HB.out.size)); replace BK1 := Az.mk (kZ BK1.out hb); clear hb; have q0 : wB105.cell? ⟨g1, 0, none⟩ = some (.int .i64 f0) := (bZ BK1.out 0).trans rfl; have q1 : wB105.cell? ⟨g1, 1, none⟩ = some (.int .i64 f1) := (bZ BK1.out 1).trans rfl; have q2 : wB105.cell? ⟨g1, 2, none⟩ = some (.int .i64 f2) := (bZ BK1.out 2).trans rfl; have q3 : wB105.cell? ⟨g1, 3, none⟩ = some (.int .i64 f3) := (bZ BK1.out 3).trans rfl; have q4 : wB105.cell? ⟨g1, 4, none⟩ = some (.int .i64 f4) := (bZ BK1.out 4).trans rfl; have q5 : wB105.cell? ⟨g1, 5, none⟩ = some (.slice A5 n5 c5) := (bZ BK1.out 5).trans rfl; have q6 : wB105.cell? ⟨g1, 6, none⟩ = some (.slice A6 n6 c6) := (bZ BK1.out 6).trans rfl; obtain rfl : a6 = N 74 := (by simp [← Ea6.out]); go_wp2_with fail; exact hj _ _ _ _ ⟨HB.out, BK1.out⟩)); (focus (obtain rfl : a6 = true := (by simp [← Ea6.out]); go_wp2_with fail; exact hj _ _ _ _ ⟨HB.out, BK1.out⟩))); intro x_ y_ z_ wM5 hR; simp only [Act.put, pn]; clear q0 q1 q2 q3 q4 q5 q6; clear HB BK1; have HB := Az.mk hR.1; have BK1 := Az.mk hR.2; clear hR; have q0 : wM5.cell? ⟨g1, 0, none⟩ = some (.int .i64 f0) := (bZ BK1.out 0).trans rfl; have q1 : wM5.cell? ⟨g1, 1, none⟩ = some (.int .i64 f1) := (bZ BK1.out 1).trans rfl; have q2 : wM5.cell? ⟨g1, 2, none⟩ = some (.int .i64 f2) := (bZ BK1.out 2).trans rfl; have q3 : wM5.cell? ⟨g1, 3, none⟩ = some (.int .i64 f3) := (bZ BK1.out 3).trans rfl; have q4 : wM5.cell? ⟨g1, 4, none⟩ = some (.int .i64 f4) := (bZ BK1.out 4).trans rfl; have q5 : wM5.cell? ⟨g1, 5, none⟩ = some (.slice A5 n5 c5) := (bZ BK1.out 5).trans rfl; have q6 : wM5.cell? ⟨g1, 6, none⟩ = some (.slice A6 n6 c6) := (bZ BK1.out 6).trans rfl))
 refine (HN.out 65 _).mono ?_
 rintro e wB2 ⟨rfl, hb⟩
 clear q0 q1 q2 q3 q4 q5 q6
 replace HB := Az.mk (HB.out.trans (hb.mono HB.out.size))
 replace BK1 := Az.mk (kZ BK1.out hb)
 clear hb
 have q0 : wB2.cell? ⟨g1, 0, none⟩ = some (.int .i64 f0) := (bZ BK1.out 0).trans rfl
 have q1 : wB2.cell? ⟨g1, 1, none⟩ = some (.int .i64 f1) := (bZ BK1.out 1).trans rfl
 have q2 : wB2.cell? ⟨g1, 2, none⟩ = some (.int .i64 f2) := (bZ BK1.out 2).trans rfl
 have q3 : wB2.cell? ⟨g1, 3, none⟩ = some (.int .i64 f3) := (bZ BK1.out 3).trans rfl
 have q4 : wB2.cell? ⟨g1, 4, none⟩ = some (.int .i64 f4) := (bZ BK1.out 4).trans rfl
 have q5 : wB2.cell? ⟨g1, 5, none⟩ = some (.slice A5 n5 c5) := (bZ BK1.out 5).trans rfl
 have q6 : wB2.cell? ⟨g1, 6, none⟩ = some (.slice A6 n6 c6) := (bZ BK1.out 6).trans rfl
 rw [Er1.out]
 go_wp2_with (first | ((with_reducible refine gate_dst (N := 37) rfl ?_); refine merge4 (.bool r2) (fun w' => Below w.heap.size w w' ∧ w'.heap[g1]? = some (.cells #[.int .i64 f0, .int .i64 f1, .int .i64 f2, .int .i64 f3, .int .i64 f4, .slice A5 n5 c5, .slice A6 n6 c6] 50 (0, 0))) ?hk ?_; (case hk => intro rest' hj; simp only [Act.put, pn] at hj; cases r1; (focus (go_wp2_with fail; refine (HN.out 86 _).mono ?_; rintro e wB106 ⟨rfl, hb⟩; clear q0 q1 q2 q3 q4 q5 q6; replace HB := Az.mk (HB.out.trans (hb.mono HB.out.size)); replace BK1 := Az.mk (kZ BK1.out hb); clear hb; have q0 : wB106.cell? ⟨g1, 0, none⟩ = some (.int .i64 f0) := (bZ BK1.out 0).trans rfl; have q1 : wB106.cell? ⟨g1, 1, none⟩ = some (.int .i64 f1) := (bZ BK1.out 1).trans rfl; have q2 : wB106.cell? ⟨g1, 2, none⟩ = some (.int .i64 f2) := (bZ BK1.out 2).trans rfl; have q3 : wB106.cell? ⟨g1, 3, none⟩ = some (.int .i64 f3) := (bZ BK1.out 3).trans rfl; have q4 : wB106.cell? ⟨g1, 4, none⟩ = some (.int .i64 f4) := (bZ BK1.out 4).trans rfl; have q5 : wB106.cell? ⟨g1, 5, none⟩ = some (.slice A5 n5 c5) := (bZ BK1.out 5).trans rfl; have q6 : wB106.cell? ⟨g1, 6, none⟩ = some (.slice A6 n6 c6) := (bZ BK1.out 6).trans rfl; obtain rfl : r2 = N 86 := (by simp [← Er2.out]); go_wp2_with fail; exact hj _ _ _ _ ⟨HB.out, BK1.out⟩)); (focus (obtain rfl : r2 = true := (by simp [← Er2.out]); go_wp2_with fail; exact hj _ _ _ _ ⟨HB.out, BK1.out⟩))); intro x_ y_ z_ wM6 hR; simp only [Act.put, pn]; clear q0 q1 q2 q3 q4 q5 q6; clear HB BK1; have HB := Az.mk hR.1; have BK1 := Az.mk hR.2; clear hR; have q0 : wM6.cell? ⟨g1, 0, none⟩ = some (.int .i64 f0) := (bZ BK1.out 0).trans rfl; have q1 : wM6.cell? ⟨g1, 1, none⟩ = some (.int .i64 f1) := (bZ BK1.out 1).trans rfl; have q2 : wM6.cell? ⟨g1, 2, none⟩ = some (.int .i64 f2) := (bZ BK1.out 2).trans rfl; have q3 : wM6.cell? ⟨g1, 3, none⟩ = some (.int .i64 f3) := (bZ BK1.out 3).trans rfl; have q4 : wM6.cell? ⟨g1, 4, none⟩ = some (.int .i64 f4) := (bZ BK1.out 4).trans rfl; have q5 : wM6.cell? ⟨g1, 5, none⟩ = some (.slice A5 n5 c5) := (bZ BK1.out 5).trans rfl; have q6 : wM6.cell? ⟨g1, 6, none⟩ = some (.slice A6 n6 c6) := (bZ BK1.out 6).trans rfl) | ((with_reducible refine gate_dst (N := 45) rfl ?_); refine merge4 (.bool k1) (fun w' => Below w.heap.size w w' ∧ w'.heap[g1]? = some (.cells #[.int .i64 f0, .int .i64 f1, .int .i64 f2, .int .i64 f3, .int .i64 f4, .slice A5 n5 c5, .slice A6 n6 c6] 50 (0, 0))) ?hk ?_; (case hk => intro rest' hj; simp only [Act.put, pn] at hj; cases hz_ : Z 1; (focus (simp only [hz_] at hj; go_wp2_with fail; refine (HN.out 82 _).mono ?_; rintro e wB107 ⟨rfl, hb⟩; clear q0 q1 q2 q3 q4 q5 q6; replace HB := Az.mk (HB.out.trans (hb.mono HB.out.size)); replace BK1 := Az.mk (kZ BK1.out hb); clear hb; have q0 : wB107.cell? ⟨g1, 0, none⟩ = some (.int .i64 f0) := (bZ BK1.out 0).trans rfl; have q1 : wB107.cell? ⟨g1, 1, none⟩ = some (.int .i64 f1) := (bZ BK1.out 1).trans rfl; have q2 : wB107.cell? ⟨g1, 2, none⟩ = some (.int .i64 f2) := (bZ BK1.out 2).trans rfl; have q3 : wB107.cell? ⟨g1, 3, none⟩ = some (.int .i64 f3) := (bZ BK1.out 3).trans rfl; have q4 : wB107.cell? ⟨g1, 4, none⟩ = some (.int .i64 f4) := (bZ BK1.out 4).trans rfl; have q5 : wB107.cell? ⟨g1, 5, none⟩ = some (.slice A5 n5 c5) := (bZ BK1.out 5).trans rfl; have q6 : wB107.cell? ⟨g1, 6, none⟩ = some (.slice A6 n6 c6) := (bZ BK1.out 6).trans rfl; obtain rfl : k1 = N 82 := (by simp [← Ek1.out, hz_]); go_wp2_with fail; exact hj _ _ _ _ ⟨HB.out, BK1.out⟩)); (focus (simp only [hz_] at hj; obtain rfl : k1 = true := (by simp [← Ek1.out, hz_]); go_wp2_with fail; exact hj _ _ _ _ ⟨HB.out, BK1.out⟩))); intro x_ y_ z_ wM7 hR; simp only [Act.put, pn]; clear q0 q1 q2 q3 q4 q5 q6; clear HB BK1; have HB := Az.mk hR.1; have BK1 := Az.mk hR.2; clear hR; have q0 : wM7.cell? ⟨g1, 0, none⟩ = some (.int .i64 f0) := (bZ BK1.out 0).trans rfl; have q1 : wM7.cell? ⟨g1, 1, none⟩ = some (.int .i64 f1) := (bZ BK1.out 1).trans rfl; have q2 : wM7.cell? ⟨g1, 2, none⟩ = some (.int .i64 f2) := (bZ BK1.out 2).trans rfl; have q3 : wM7.cell? ⟨g1, 3, none⟩ = some (.int .i64 f3) := (bZ BK1.out 3).trans rfl; have q4 : wM7.cell? ⟨g1, 4, none⟩ = some (.int .i64 f4) := (bZ BK1.out 4).trans rfl; have q5 : wM7.cell? ⟨g1, 5, none⟩ = some (.slice A5 n5 c5) := (bZ BK1.out 5).trans rfl; have q6 : wM7.cell? ⟨g1, 6, none⟩ = some (.slice A6 n6 c6) := (bZ BK1.out 6).trans rfl) | ((with_reducible refine gate_dst (N := 54) rfl ?_); refine merge4 (.bool k2) (fun w' => Below w.heap.size w w' ∧ w'.heap[g1]? = some (.cells #[.int .i64 f0, .int .i64 f1, .int .i64 f2, .int .i64 f3, .int .i64 f4, .slice A5 n5 c5, .slice A6 n6 c6] 50 (0, 0))) ?hk ?_; (case hk => intro rest' hj; simp only [Act.put, pn] at hj; cases hz_ : Z 2; (focus (simp only [hz_] at hj; go_wp2_with fail; refine (HN.out 83 _).mono ?_; rintro e wB108 ⟨rfl, hb⟩; clear q0 q1 q2 q3 q4 q5 q6; replace HB := Az.mk (HB.out.trans (hb.mono HB.out.size)); replace BK1 := Az.mk (kZ BK1.out hb); clear hb; have q0 : wB108.cell? ⟨g1, 0, none⟩ = some (.int .i64 f0) := (bZ BK1.out 0).trans rfl; have q1 : wB108.cell? ⟨g1, 1, none⟩ = some (.int .i64 f1) := (bZ BK1.out 1).trans rfl; have q2 : wB108.cell? ⟨g1, 2, none⟩ = some (.int .i64 f2) := (bZ BK1.out 2).trans rfl; have q3 : wB108.cell? ⟨g1, 3, none⟩ = some (.int .i64 f3) := (bZ BK1.out 3).trans rfl; have q4 : wB108.cell? ⟨g1, 4, none⟩ = some (.int .i64 f4) := (bZ BK1.out 4).trans rfl; have q5 : wB108.cell? ⟨g1, 5, none⟩ = some (.slice A5 n5 c5) := (bZ BK1.out 5).trans rfl; have q6 : wB108.cell? ⟨g1, 6, none⟩ = some (.slice A6 n6 c6) := (bZ BK1.out 6).trans rfl; obtain rfl : k2 = N 83 := (by simp [← Ek2.out, hz_]); go_wp2_with fail; exact hj _ _ _ _ ⟨HB.out, BK1.out⟩)); (focus (simp only [hz_] at hj; obtain rfl : k2 = true := (by simp [← Ek2.out, hz_]); go_wp2_with fail; exact hj _ _ _ _ ⟨HB.out, BK1.out⟩))); intro x_ y_ z_ wM8 hR; simp only [Act.put, pn]; clear q0 q1 q2 q3 q4 q5 q6; clear HB BK1; have HB := Az.mk hR.1; have BK1 := Az.mk hR.2; clear hR; have q0 : wM8.cell? ⟨g1, 0, none⟩ = some (.int .i64 f0) := (bZ BK1.out 0).trans rfl; have q1 : wM8.cell? ⟨g1, 1, none⟩ = some (.int .i64 f1) := (bZ BK1.out 1).trans rfl; have q2 : wM8.cell? ⟨g1, 2, none⟩ = some (.int .i64 f2) := (bZ BK1.out 2).trans rfl; have q3 : wM8.cell? ⟨g1, 3, none⟩ = some (.int .i64 f3) := (bZ BK1.out 3).trans rfl; have q4 : wM8.cell? ⟨g1, 4, none⟩ = some (.int .i64 f4) := (bZ BK1.out 4).trans rfl; have q5 : wM8.cell? ⟨g1, 5, none⟩ = some (.slice A5 n5 c5) := (bZ BK1.out 5).trans rfl; have q6 : wM8.cell? ⟨g1, 6, none⟩ = some (.slice A6 n6 c6) := (bZ BK1.out 6).trans rfl) | ((with_reducible refine gate_dst (N := 64) rfl ?_); refine merge4 (.bool k3) (fun w' => Below w.heap.size w w' ∧ w'.heap[g1]? = some (.cells #[.int .i64 f0, .int .i64 f1, .int .i64 f2, .int .i64 f3, .int .i64 f4, .slice A5 n5 c5, .slice A6 n6 c6] 50 (0, 0))) ?hk ?_; (case hk => intro rest' hj; simp only [Act.put, pn] at hj; cases hz_ : Z 3; (focus (simp only [hz_] at hj; go_wp2_with fail; refine (HN.out 84 _).mono ?_; rintro e wB109 ⟨rfl, hb⟩; clear q0 q1 q2 q3 q4 q5 q6; replace HB := Az.mk (HB.out.trans (hb.mono HB.out.size)); replace BK1 := Az.mk (kZ BK1.out hb); clear hb; have q0 : wB109.cell? ⟨g1, 0, none⟩ = some (.int .i64 f0) := (bZ BK1.out 0).trans rfl; have q1 : wB109.cell? ⟨g1, 1, none⟩ = some (.int .i64 f1) := (bZ BK1.out 1).trans rfl; have q2 : wB109.cell? ⟨g1, 2, none⟩ = some (.int .i64 f2) := (bZ BK1.out 2).trans rfl; have q3 : wB109.cell? ⟨g1, 3, none⟩ = some (.int .i64 f3) := (bZ BK1.out 3).trans rfl; have q4 : wB109.cell? ⟨g1, 4, none⟩ = some (.int .i64 f4) := (bZ BK1.out 4).trans rfl; have q5 : wB109.cell? ⟨g1, 5, none⟩ = some (.slice A5 n5 c5) := (bZ BK1.out 5).trans rfl; have q6 : wB109.cell? ⟨g1, 6, none⟩ = some (.slice A6 n6 c6) := (bZ BK1.out 6).trans rfl; obtain rfl : k3 = N 84 := (by simp [← Ek3.out, hz_]); go_wp2_with fail; exact hj _ _ _ _ ⟨HB.out, BK1.out⟩)); (focus (simp only [hz_] at hj; obtain rfl : k3 = true := (by simp [← Ek3.out, hz_]); go_wp2_with fail; exact hj _ _ _ _ ⟨HB.out, BK1.out⟩))); intro x_ y_ z_ wM9 hR; simp only [Act.put, pn]; clear q0 q1 q2 q3 q4 q5 q6; clear HB BK1; have HB := Az.mk hR.1; have BK1 := Az.mk hR.2; clear hR; have q0 : wM9.cell? ⟨g1, 0, none⟩ = some (.int .i64 f0) := (bZ BK1.out 0).trans rfl; have q1 : wM9.cell? ⟨g1, 1, none⟩ = some (.int .i64 f1) := (bZ BK1.out 1).trans rfl; have q2 : wM9.cell? ⟨g1, 2, none⟩ = some (.int .i64 f2) := (bZ BK1.out 2).trans rfl; have q3 : wM9.cell? ⟨g1, 3, none⟩ = some (.int .i64 f3) := (bZ BK1.out 3).trans rfl; have q4 : wM9.cell? ⟨g1, 4, none⟩ = some (.int .i64 f4) := (bZ BK1.out 4).trans rfl; have q5 : wM9.cell? ⟨g1, 5, none⟩ = some (.slice A5 n5 c5) := (bZ BK1.out 5).trans rfl; have q6 : wM9.cell? ⟨g1, 6, none⟩ = some (.slice A6 n6 c6) := (bZ BK1.out 6).trans rfl) | ((with_reducible refine gate_dst (N := 74) rfl ?_); refine merge2 (.bool k4) ?hk ?_; (case hk => intro rest' hj; simp only [Act.put, pn] at hj; cases hz_ : Z 4; (focus (simp only [hz_] at hj; obtain rfl : k4 = a6 := (by simp [← Ek4.out, hz_]); go_wp2_with fail; exact hj _)); (focus (simp only [hz_] at hj; obtain rfl : k4 = true := (by simp [← Ek4.out, hz_]); go_wp2_with fail; exact hj _))); intro x_; simp only [Act.put, pn]) | ((with_reducible refine gate_dst (N := 83) rfl ?_); refine merge2 (.bool k5) ?hk ?_; (case hk => intro rest' hj; simp only [Act.put, pn] at hj; cases hz_ : Z 5; (focus (simp only [hz_] at hj; obtain rfl : k5 = r2 := (by simp [← Ek5.out, hz_]); go_wp2_with fail; exact hj _)); (focus (simp only [hz_] at hj; obtain rfl : k5 = true := (by simp [← Ek5.out, hz_]); go_wp2_with fail; exact hj _))); intro x_; simp only [Act.put, pn]) | ((with_reducible refine gate_dst (N := 92) rfl ?_); refine merge4 (.bool k6) (fun w' => Below w.heap.size w w' ∧ w'.heap[g1]? = some (.cells #[.int .i64 f0, .int .i64 f1, .int .i64 f2, .int .i64 f3, .int .i64 f4, .slice A5 n5 c5, .slice A6 n6 c6] 50 (0, 0))) ?hk ?_; (case hk => intro rest' hj; simp only [Act.put, pn] at hj; cases hz_ : Z 6; (focus (simp only [hz_] at hj; go_wp2_with fail; refine (HN.out 66 _).mono ?_; rintro e wB110 ⟨rfl, hb⟩; clear q0 q1 q2 q3 q4 q5 q6; replace HB := Az.mk (HB.out.trans (hb.mono HB.out.size)); replace BK1 := Az.mk (kZ BK1.out hb); clear hb; have q0 : wB110.cell? ⟨g1, 0, none⟩ = some (.int .i64 f0) := (bZ BK1.out 0).trans rfl; have q1 : wB110.cell? ⟨g1, 1, none⟩ = some (.int .i64 f1) := (bZ BK1.out 1).trans rfl; have q2 : wB110.cell? ⟨g1, 2, none⟩ = some (.int .i64 f2) := (bZ BK1.out 2).trans rfl; have q3 : wB110.cell? ⟨g1, 3, none⟩ = some (.int .i64 f3) := (bZ BK1.out 3).trans rfl; have q4 : wB110.cell? ⟨g1, 4, none⟩ = some (.int .i64 f4) := (bZ BK1.out 4).trans rfl; have q5 : wB110.cell? ⟨g1, 5, none⟩ = some (.slice A5 n5 c5) := (bZ BK1.out 5).trans rfl; have q6 : wB110.cell? ⟨g1, 6, none⟩ = some (.slice A6 n6 c6) := (bZ BK1.out 6).trans rfl; obtain rfl : k6 = N 66 := (by simp [← Ek6.out, hz_]); go_wp2_with fail; exact hj _ _ _ _ ⟨HB.out, BK1.out⟩)); (focus (simp only [hz_] at hj; obtain rfl : k6 = true := (by simp [← Ek6.out, hz_]); go_wp2_with fail; exact hj _ _ _ _ ⟨HB.out, BK1.out⟩))); intro x_ y_ z_ wM10 hR; simp only [Act.put, pn]; clear q0 q1 q2 q3 q4 q5 q6; clear HB BK1; have HB := Az.mk hR.1; have BK1 := Az.mk hR.2; clear hR; have q0 : wM10.cell? ⟨g1, 0, none⟩ = some (.int .i64 f0) := (bZ BK1.out 0).trans rfl; have q1 : wM10.cell? ⟨g1, 1, none⟩ = some (.int .i64 f1) := (bZ BK1.out 1).trans rfl; have q2 : wM10.cell? ⟨g1, 2, none⟩ = some (.int .i64 f2) := (bZ BK1.out 2).trans rfl; have q3 : wM10.cell? ⟨g1, 3, none⟩ = some (.int .i64 f3) := (bZ BK1.out 3).trans rfl; have q4 : wM10.cell? ⟨g1, 4, none⟩ = some (.int .i64 f4) := (bZ BK1.out 4).trans rfl; have q5 : wM10.cell? ⟨g1, 5, none⟩ = some (.slice A5 n5 c5) := (bZ BK1.out 5).trans rfl; have q6 : wM10.cell? ⟨g1, 6, none⟩ = some (.slice A6 n6 c6) := (bZ BK1.out 6).trans rfl))
 all_goals
  go_ret
  exact ⟨by simp [*, ← Ek4.out, ← Ek5.out], HB.out⟩
def plainR (x : S50) : Bool := plainN (nmS x.f0) x
theorem rplain_any (x : S50) (A5 : Option Addr) (c5 : Nat) (A6 : Option Addr) (c6 : Nat) (w : World) :
  Calls Tryd.prog 94 #[.agg #[.int .i64 x.f0, .int .i64 x.f1, .int .i64 x.f2, .int .i64 x.f3, .int .i64 x.f4, .slice A5 x.f5.length c5, .slice A6 x.f6.length c6]] w fun e w' => e = .returned (.bool (plainR x)) ∧ Below w.heap.size w w' :=
 rplain_gen (nmS x.f0) x.f0 x.f1 x.f2 x.f3 x.f4 A5 x.f5.length c5 A6 x.f6.length c6 w (fun p w => names_any x.f0 p w)
def isOp (op : Int) : Bool := !(prS op).toList.isEmpty
def ropE (locs : Int) (x : S50) (last : Bool) (err : Int) : Int :=
 mustE (decide (locs + newL x + 1 ≤ 1048576)) 21 (mustE (!last || (x.f0 == 13 || x.f0 == 15)) 19 (mustE (plainR x) 1 (mustE (isOp x.f0) 12 err)))
section
variable {Wz w0 w w' : World} {g : Nat} {G : Int} {A : Option Addr} {m c : Nat} {locs err : Int}
set_option maxHeartbeats 16000000 in
set_option maxRecDepth 100000 in
theorem rop_any (x : S50) (A5 : Option Addr) (c5 : Nat) (A6 : Option Addr) (c6 : Nat) (last : Bool) (h : Wk Wz w0 w g G A m c locs err) (hl0 : 0 ≤ locs) (hl1 : locs ≤ 1099511627776) :
  Calls Tryd.prog 62 #[.pointer (some ⟨g, 0, none⟩), .agg #[.int .i64 x.f0, .int .i64 x.f1, .int .i64 x.f2, .int .i64 x.f3, .int .i64 x.f4, .slice A5 x.f5.length c5, .slice A6 x.f6.length c6], .bool last] w fun r w' =>
   r = .returned (.tuple #[]) ∧ Wk Wz w0 w' g G A m c (locs + newL x) (ropE locs x last err) := by
 have HH := Az.mk h
 have HB := Az.mk (Below.refl w.heap.size w)
 have hw1 : wrap64 (locs + 1) = locs + 1 := wrap_in (by omega) (by omega)
 have hw2 : wrap64 (locs + 1 + 1) = locs + 1 + 1 := wrap_in (by omega) (by omega)
 have HPl := Az.mk (rplain_any x A5 c5 A6 c6)
 have hE : ropE locs x last err = mustE (decide (locs + newL x + 1 ≤ 1048576)) 21 (mustE (!last || (x.f0 == 13 || x.f0 == 15)) 19 (mustE (plainR x) 1 (mustE (!(prS x.f0).toList.isEmpty) 12 err))) := by unfold ropE isOp; rfl
 rw [hE]
 have HNw : Az (newL x = if x.f0 = 6 then 1 else 0) := ⟨rfl⟩
 obtain ⟨nl, hnl⟩ : ∃ nl, nl = newL x := ⟨_, rfl⟩
 rw [← hnl] at HNw ⊢
 obtain ⟨pl, hpl⟩ : ∃ b, b = plainR x := ⟨_, rfl⟩
 rw [← hpl] at HPl ⊢
 obtain ⟨f0, hf0⟩ : ∃ v, v = x.f0 := ⟨_, rfl⟩
 obtain ⟨f1, hf1⟩ : ∃ v, v = x.f1 := ⟨_, rfl⟩
 obtain ⟨f2, hf2⟩ : ∃ v, v = x.f2 := ⟨_, rfl⟩
 obtain ⟨f3, hf3⟩ : ∃ v, v = x.f3 := ⟨_, rfl⟩
 obtain ⟨f4, hf4⟩ : ∃ v, v = x.f4 := ⟨_, rfl⟩
 obtain ⟨n5, hn5⟩ : ∃ v, v = x.f5.length := ⟨_, rfl⟩
 obtain ⟨n6, hn6⟩ : ∃ v, v = x.f6.length := ⟨_, rfl⟩
 rw [← hf0] at HNw
 rw [← hf0, ← hf1, ← hf2, ← hf3, ← hf4, ← hn5, ← hn6] at HPl
 rw [← hf0, ← hf1, ← hf2, ← hf3, ← hf4, ← hn5, ← hn6]
 clear h hl0 hl1 hE hnl hpl hf0 hf1 hf2 hf3 hf4 hn5 hn6
 have HGl : Az (g < w.heap.size) := ⟨blk_lt HH.out.blk⟩
 go_enter Tryd.func62, Tryd.ntmps62
 go_wp2_with ((with_reducible refine gate_dst (N := 4) rfl ?_); refine box_event ?hg (N := 4) ?hd (cs := #[.int .i64 f0, .int .i64 f1, .int .i64 f2, .int .i64 f3, .int .i64 f4, .slice A5 n5 c5, .slice A6 n6 c6]) (t := 50) ?hr ?_; (case hd => rfl); (case hg => rfl); (case hr => first | (go_simp; done) | (go_simp; rfl)); intro g4 hg w4 hbox hb; have G4 : Az (w.heap.size ≤ g4) := ⟨by have := HB.out.size; omega⟩; replace HB := Az.mk (HB.out.trans (hb.mono HB.out.size)); replace HH := Az.mk (HH.out.below hb); have BK4 := Az.mk hbox; clear hg hbox hb; have NE : Az (g4 ≠ g) := ⟨by have := G4.out; have := HGl.out; omega⟩; have q0 : w4.cell? ⟨g4, 0, none⟩ = some (.int .i64 f0) := (bZ BK4.out 0).trans rfl; have q1 : w4.cell? ⟨g4, 1, none⟩ = some (.int .i64 f1) := (bZ BK4.out 1).trans rfl; have q2 : w4.cell? ⟨g4, 2, none⟩ = some (.int .i64 f2) := (bZ BK4.out 2).trans rfl; have q3 : w4.cell? ⟨g4, 3, none⟩ = some (.int .i64 f3) := (bZ BK4.out 3).trans rfl; have q4 : w4.cell? ⟨g4, 4, none⟩ = some (.int .i64 f4) := (bZ BK4.out 4).trans rfl; have q5 : w4.cell? ⟨g4, 5, none⟩ = some (.slice A5 n5 c5) := (bZ BK4.out 5).trans rfl; have q6 : w4.cell? ⟨g4, 6, none⟩ = some (.slice A6 n6 c6) := (bZ BK4.out 6).trans rfl)
 refine (parts_any _ _).mono ?_
 rintro e wc1 ⟨rfl, hb⟩
 clear q0 q1 q2 q3 q4 q5 q6
 replace BK4 := Az.mk (kZ BK4.out hb)
 replace HH := Az.mk (HH.out.below hb)
 clear hb
 have q0 : wc1.cell? ⟨g4, 0, none⟩ = some (.int .i64 f0) := (bZ BK4.out 0).trans rfl
 have q1 : wc1.cell? ⟨g4, 1, none⟩ = some (.int .i64 f1) := (bZ BK4.out 1).trans rfl
 have q2 : wc1.cell? ⟨g4, 2, none⟩ = some (.int .i64 f2) := (bZ BK4.out 2).trans rfl
 have q3 : wc1.cell? ⟨g4, 3, none⟩ = some (.int .i64 f3) := (bZ BK4.out 3).trans rfl
 have q4 : wc1.cell? ⟨g4, 4, none⟩ = some (.int .i64 f4) := (bZ BK4.out 4).trans rfl
 have q5 : wc1.cell? ⟨g4, 5, none⟩ = some (.slice A5 n5 c5) := (bZ BK4.out 5).trans rfl
 have q6 : wc1.cell? ⟨g4, 6, none⟩ = some (.slice A6 n6 c6) := (bZ BK4.out 6).trans rfl
 go_wp2_with fail
 refine (wmust_any _ _ HH.out.at_).mono ?_
 rintro e wm2 ⟨rfl, hW⟩
 clear q0 q1 q2 q3 q4 q5 q6
 replace BK4 := Az.mk (hW.kp.blk BK4.out NE.out (by simp))
 replace HH := Az.mk (HH.out.trans hW)
 clear hW
 have q0 : wm2.cell? ⟨g4, 0, none⟩ = some (.int .i64 f0) := (bZ BK4.out 0).trans rfl
 have q1 : wm2.cell? ⟨g4, 1, none⟩ = some (.int .i64 f1) := (bZ BK4.out 1).trans rfl
 have q2 : wm2.cell? ⟨g4, 2, none⟩ = some (.int .i64 f2) := (bZ BK4.out 2).trans rfl
 have q3 : wm2.cell? ⟨g4, 3, none⟩ = some (.int .i64 f3) := (bZ BK4.out 3).trans rfl
 have q4 : wm2.cell? ⟨g4, 4, none⟩ = some (.int .i64 f4) := (bZ BK4.out 4).trans rfl
 have q5 : wm2.cell? ⟨g4, 5, none⟩ = some (.slice A5 n5 c5) := (bZ BK4.out 5).trans rfl
 have q6 : wm2.cell? ⟨g4, 6, none⟩ = some (.slice A6 n6 c6) := (bZ BK4.out 6).trans rfl
 go_wp2_with fail
 refine (HPl.out _).mono ?_
 rintro e wc3 ⟨rfl, hb⟩
 clear q0 q1 q2 q3 q4 q5 q6
 replace BK4 := Az.mk (kZ BK4.out hb)
 replace HH := Az.mk (HH.out.below hb)
 clear hb
 have q0 : wc3.cell? ⟨g4, 0, none⟩ = some (.int .i64 f0) := (bZ BK4.out 0).trans rfl
 have q1 : wc3.cell? ⟨g4, 1, none⟩ = some (.int .i64 f1) := (bZ BK4.out 1).trans rfl
 have q2 : wc3.cell? ⟨g4, 2, none⟩ = some (.int .i64 f2) := (bZ BK4.out 2).trans rfl
 have q3 : wc3.cell? ⟨g4, 3, none⟩ = some (.int .i64 f3) := (bZ BK4.out 3).trans rfl
 have q4 : wc3.cell? ⟨g4, 4, none⟩ = some (.int .i64 f4) := (bZ BK4.out 4).trans rfl
 have q5 : wc3.cell? ⟨g4, 5, none⟩ = some (.slice A5 n5 c5) := (bZ BK4.out 5).trans rfl
 have q6 : wc3.cell? ⟨g4, 6, none⟩ = some (.slice A6 n6 c6) := (bZ BK4.out 6).trans rfl
 go_wp2_with fail
 refine (wmust_any _ _ HH.out.at_).mono ?_
 rintro e wm4 ⟨rfl, hW⟩
 clear q0 q1 q2 q3 q4 q5 q6
 replace BK4 := Az.mk (hW.kp.blk BK4.out NE.out (by simp))
 replace HH := Az.mk (HH.out.trans hW)
 clear hW
 have q0 : wm4.cell? ⟨g4, 0, none⟩ = some (.int .i64 f0) := (bZ BK4.out 0).trans rfl
 have q1 : wm4.cell? ⟨g4, 1, none⟩ = some (.int .i64 f1) := (bZ BK4.out 1).trans rfl
 have q2 : wm4.cell? ⟨g4, 2, none⟩ = some (.int .i64 f2) := (bZ BK4.out 2).trans rfl
 have q3 : wm4.cell? ⟨g4, 3, none⟩ = some (.int .i64 f3) := (bZ BK4.out 3).trans rfl
 have q4 : wm4.cell? ⟨g4, 4, none⟩ = some (.int .i64 f4) := (bZ BK4.out 4).trans rfl
 have q5 : wm4.cell? ⟨g4, 5, none⟩ = some (.slice A5 n5 c5) := (bZ BK4.out 5).trans rfl
 have q6 : wm4.cell? ⟨g4, 6, none⟩ = some (.slice A6 n6 c6) := (bZ BK4.out 6).trans rfl
 by_cases c6 : f0 = 6
 ·have c6b : (f0 == 6) = true := beq_iff_eq.2 c6
  obtain rfl : nl = 1 := by rw [HNw.out, if_pos c6]
  cases last with
  | false =>
   clear c6
   go_wp2_with fail
   refine (wmust_any _ _ HH.out.at_).mono ?_
   rintro e wm5 ⟨rfl, hW⟩
   clear q0 q1 q2 q3 q4 q5 q6
   replace BK4 := Az.mk (hW.kp.blk BK4.out NE.out (by simp))
   replace HH := Az.mk (HH.out.trans hW)
   clear hW
   have q0 : wm5.cell? ⟨g4, 0, none⟩ = some (.int .i64 f0) := (bZ BK4.out 0).trans rfl
   have q1 : wm5.cell? ⟨g4, 1, none⟩ = some (.int .i64 f1) := (bZ BK4.out 1).trans rfl
   have q2 : wm5.cell? ⟨g4, 2, none⟩ = some (.int .i64 f2) := (bZ BK4.out 2).trans rfl
   have q3 : wm5.cell? ⟨g4, 3, none⟩ = some (.int .i64 f3) := (bZ BK4.out 3).trans rfl
   have q4 : wm5.cell? ⟨g4, 4, none⟩ = some (.int .i64 f4) := (bZ BK4.out 4).trans rfl
   have q5 : wm5.cell? ⟨g4, 5, none⟩ = some (.slice A5 n5 c5) := (bZ BK4.out 5).trans rfl
   have q6 : wm5.cell? ⟨g4, 6, none⟩ = some (.slice A6 n6 c6) := (bZ BK4.out 6).trans rfl
   have s2 := HH.out.c2
   have sf2 := fZ HH.out.blk 2
   go_wp2_with fail
   clear q0 q1 q2 q3 q4 q5 q6
   have H6 : Az (Wk Wz w0 (wm5.setCell ⟨g, 2, none⟩ (.int .i64 (locs + 1))) g G A m c (locs + 1) _) := ⟨HH.out.set2 _⟩
   clear HH s2 sf2
   have HH := H6
   clear H6
   refine (wmust_any _ _ HH.out).mono ?_
   rintro e wz ⟨rfl, hW⟩
   have HH3 := Az.mk hW
   clear hW
   go_wp2_with fail
   go_end0
   refine ⟨rfl, ?_⟩
   rw [Bool.not_false, Bool.true_or]
   exact HH3.out
  | true =>
   have d13 : (f0 == 13) = false := by rw [c6]; rfl
   have d15 : (f0 == 15) = false := by rw [c6]; rfl
   have D13 := Az.mk d13
   have D15 := Az.mk d15
   clear c6
   go_wp2_with fail
   refine (wmust_any _ _ HH.out.at_).mono ?_
   rintro e wm5 ⟨rfl, hW⟩
   clear q0 q1 q2 q3 q4 q5 q6
   replace BK4 := Az.mk (hW.kp.blk BK4.out NE.out (by simp))
   replace HH := Az.mk (HH.out.trans hW)
   clear hW
   have q0 : wm5.cell? ⟨g4, 0, none⟩ = some (.int .i64 f0) := (bZ BK4.out 0).trans rfl
   have q1 : wm5.cell? ⟨g4, 1, none⟩ = some (.int .i64 f1) := (bZ BK4.out 1).trans rfl
   have q2 : wm5.cell? ⟨g4, 2, none⟩ = some (.int .i64 f2) := (bZ BK4.out 2).trans rfl
   have q3 : wm5.cell? ⟨g4, 3, none⟩ = some (.int .i64 f3) := (bZ BK4.out 3).trans rfl
   have q4 : wm5.cell? ⟨g4, 4, none⟩ = some (.int .i64 f4) := (bZ BK4.out 4).trans rfl
   have q5 : wm5.cell? ⟨g4, 5, none⟩ = some (.slice A5 n5 c5) := (bZ BK4.out 5).trans rfl
   have q6 : wm5.cell? ⟨g4, 6, none⟩ = some (.slice A6 n6 c6) := (bZ BK4.out 6).trans rfl
   have s2 := HH.out.c2
   have sf2 := fZ HH.out.blk 2
   go_wp2_with fail
   clear q0 q1 q2 q3 q4 q5 q6
   have H6 : Az (Wk Wz w0 (wm5.setCell ⟨g, 2, none⟩ (.int .i64 (locs + 1))) g G A m c (locs + 1) _) := ⟨HH.out.set2 _⟩
   clear HH s2 sf2
   have HH := H6
   clear H6
   refine (wmust_any _ _ HH.out).mono ?_
   rintro e wz ⟨rfl, hW⟩
   have HH3 := Az.mk hW
   clear hW
   go_wp2_with fail
   go_end0
   refine ⟨rfl, ?_⟩
   rw [Bool.not_true, Bool.false_or, D13.out, D15.out, Bool.false_or]
   exact HH3.out
 ·have c6b : (f0 == 6) = false := beq_eq_false_iff_ne.2 c6
  obtain rfl : nl = 0 := by rw [HNw.out, if_neg c6]
  cases last with
  | false =>
   clear c6
   go_wp2_with fail
   refine (wmust_any _ _ HH.out.at_).mono ?_
   rintro e wm5 ⟨rfl, hW⟩
   clear q0 q1 q2 q3 q4 q5 q6
   replace BK4 := Az.mk (hW.kp.blk BK4.out NE.out (by simp))
   replace HH := Az.mk (HH.out.trans hW)
   clear hW
   have q0 : wm5.cell? ⟨g4, 0, none⟩ = some (.int .i64 f0) := (bZ BK4.out 0).trans rfl
   have q1 : wm5.cell? ⟨g4, 1, none⟩ = some (.int .i64 f1) := (bZ BK4.out 1).trans rfl
   have q2 : wm5.cell? ⟨g4, 2, none⟩ = some (.int .i64 f2) := (bZ BK4.out 2).trans rfl
   have q3 : wm5.cell? ⟨g4, 3, none⟩ = some (.int .i64 f3) := (bZ BK4.out 3).trans rfl
   have q4 : wm5.cell? ⟨g4, 4, none⟩ = some (.int .i64 f4) := (bZ BK4.out 4).trans rfl
   have q5 : wm5.cell? ⟨g4, 5, none⟩ = some (.slice A5 n5 c5) := (bZ BK4.out 5).trans rfl
   have q6 : wm5.cell? ⟨g4, 6, none⟩ = some (.slice A6 n6 c6) := (bZ BK4.out 6).trans rfl
   have s2 := HH.out.c2
   have sf2 := fZ HH.out.blk 2
   go_wp2_with fail
   refine (wmust_any _ _ HH.out).mono ?_
   rintro e wz ⟨rfl, hW⟩
   have HH3 := Az.mk hW
   clear hW
   go_wp2_with fail
   go_end0
   refine ⟨rfl, ?_⟩
   rw [Int.add_zero, Bool.not_false, Bool.true_or]
   exact HH3.out
  | true =>
   clear c6
   by_cases d13 : f0 = 13
   ·have d13b : (f0 == 13) = true := beq_iff_eq.2 d13
    have D13 := Az.mk d13b
    clear d13
    go_wp2_with fail
    refine (wmust_any _ _ HH.out.at_).mono ?_
    rintro e wm5 ⟨rfl, hW⟩
    clear q0 q1 q2 q3 q4 q5 q6
    replace BK4 := Az.mk (hW.kp.blk BK4.out NE.out (by simp))
    replace HH := Az.mk (HH.out.trans hW)
    clear hW
    have q0 : wm5.cell? ⟨g4, 0, none⟩ = some (.int .i64 f0) := (bZ BK4.out 0).trans rfl
    have q1 : wm5.cell? ⟨g4, 1, none⟩ = some (.int .i64 f1) := (bZ BK4.out 1).trans rfl
    have q2 : wm5.cell? ⟨g4, 2, none⟩ = some (.int .i64 f2) := (bZ BK4.out 2).trans rfl
    have q3 : wm5.cell? ⟨g4, 3, none⟩ = some (.int .i64 f3) := (bZ BK4.out 3).trans rfl
    have q4 : wm5.cell? ⟨g4, 4, none⟩ = some (.int .i64 f4) := (bZ BK4.out 4).trans rfl
    have q5 : wm5.cell? ⟨g4, 5, none⟩ = some (.slice A5 n5 c5) := (bZ BK4.out 5).trans rfl
    have q6 : wm5.cell? ⟨g4, 6, none⟩ = some (.slice A6 n6 c6) := (bZ BK4.out 6).trans rfl
    have s2 := HH.out.c2
    have sf2 := fZ HH.out.blk 2
    go_wp2_with fail
    refine (wmust_any _ _ HH.out).mono ?_
    rintro e wz ⟨rfl, hW⟩
    have HH3 := Az.mk hW
    clear hW
    go_wp2_with fail
    go_end0
    refine ⟨rfl, ?_⟩
    rw [Int.add_zero, Bool.not_true, Bool.false_or, D13.out, Bool.true_or]
    exact HH3.out
   ·have d13b : (f0 == 13) = false := beq_eq_false_iff_ne.2 d13
    have D13 := Az.mk d13b
    clear d13
    cases hd : (f0 == 15)
    ·have D15 := Az.mk hd
     go_wp2_with fail
     refine (wmust_any _ _ HH.out.at_).mono ?_
     rintro e wm5 ⟨rfl, hW⟩
     clear q0 q1 q2 q3 q4 q5 q6
     replace BK4 := Az.mk (hW.kp.blk BK4.out NE.out (by simp))
     replace HH := Az.mk (HH.out.trans hW)
     clear hW
     have q0 : wm5.cell? ⟨g4, 0, none⟩ = some (.int .i64 f0) := (bZ BK4.out 0).trans rfl
     have q1 : wm5.cell? ⟨g4, 1, none⟩ = some (.int .i64 f1) := (bZ BK4.out 1).trans rfl
     have q2 : wm5.cell? ⟨g4, 2, none⟩ = some (.int .i64 f2) := (bZ BK4.out 2).trans rfl
     have q3 : wm5.cell? ⟨g4, 3, none⟩ = some (.int .i64 f3) := (bZ BK4.out 3).trans rfl
     have q4 : wm5.cell? ⟨g4, 4, none⟩ = some (.int .i64 f4) := (bZ BK4.out 4).trans rfl
     have q5 : wm5.cell? ⟨g4, 5, none⟩ = some (.slice A5 n5 c5) := (bZ BK4.out 5).trans rfl
     have q6 : wm5.cell? ⟨g4, 6, none⟩ = some (.slice A6 n6 c6) := (bZ BK4.out 6).trans rfl
     have s2 := HH.out.c2
     have sf2 := fZ HH.out.blk 2
     go_wp2_with fail
     refine (wmust_any _ _ HH.out).mono ?_
     rintro e wz ⟨rfl, hW⟩
     have HH3 := Az.mk hW
     clear hW
     go_wp2_with fail
     go_end0
     refine ⟨rfl, ?_⟩
     rw [Int.add_zero, Bool.not_true, Bool.false_or, D13.out, Bool.false_or, D15.out]
     exact HH3.out
    ·have D15 := Az.mk hd
     go_wp2_with fail
     refine (wmust_any _ _ HH.out.at_).mono ?_
     rintro e wm5 ⟨rfl, hW⟩
     clear q0 q1 q2 q3 q4 q5 q6
     replace BK4 := Az.mk (hW.kp.blk BK4.out NE.out (by simp))
     replace HH := Az.mk (HH.out.trans hW)
     clear hW
     have q0 : wm5.cell? ⟨g4, 0, none⟩ = some (.int .i64 f0) := (bZ BK4.out 0).trans rfl
     have q1 : wm5.cell? ⟨g4, 1, none⟩ = some (.int .i64 f1) := (bZ BK4.out 1).trans rfl
     have q2 : wm5.cell? ⟨g4, 2, none⟩ = some (.int .i64 f2) := (bZ BK4.out 2).trans rfl
     have q3 : wm5.cell? ⟨g4, 3, none⟩ = some (.int .i64 f3) := (bZ BK4.out 3).trans rfl
     have q4 : wm5.cell? ⟨g4, 4, none⟩ = some (.int .i64 f4) := (bZ BK4.out 4).trans rfl
     have q5 : wm5.cell? ⟨g4, 5, none⟩ = some (.slice A5 n5 c5) := (bZ BK4.out 5).trans rfl
     have q6 : wm5.cell? ⟨g4, 6, none⟩ = some (.slice A6 n6 c6) := (bZ BK4.out 6).trans rfl
     have s2 := HH.out.c2
     have sf2 := fZ HH.out.blk 2
     go_wp2_with fail
     refine (wmust_any _ _ HH.out).mono ?_
     rintro e wz ⟨rfl, hW⟩
     have HH3 := Az.mk hW
     clear hW
     go_wp2_with fail
     go_end0
     refine ⟨rfl, ?_⟩
     rw [Int.add_zero, Bool.not_true, Bool.false_or, D13.out, Bool.false_or, D15.out]
     exact HH3.out
end
def TAB_35.T5 : Bool × List (List Nat × List Nat) := (true, [([], []), ([], []), ([1], [1]), ([2], [2]), ([3], [3]), ([], []), ([5], [5]), ([4, 6], [4, 6]), ([0, 0, 1, 2, 3, 4, 5, 6, 7], [0]), ([8, 0, 1, 2, 3, 4, 5, 6, 7], [8]), ([9, 7, 0, 1, 2, 3, 4, 5, 6, 7], [7, 9])])
def TAB_35.B5 : List Nat := [0, 0, 2, 6, 14, 0, 32, 126, 255, 511, 1023]
theorem TAB_35.tab5 : rtab .any (opsOf Tryd.f35 5) = TAB_35.T5 := by kernel_rfl
theorem TAB_35.bits5 : waitsOk TAB_35.T5.2 TAB_35.B5 = true := by kernel_rfl
def rheadA (P R V n err : Int) : Int := mustE (decide (1 ≤ n)) 19 (mustE (headB P R V n) 20 err)
def rheadL (locs P R V n err : Int) : Int := if rheadA P R V n err = 0 then locs + V else locs
def rheadE (locs P R V n err : Int) : Int := mustE (decide (rheadL locs P R V n err + 1 ≤ 1048576)) 21 (rheadA P R V n err)
theorem mustE_ne {ok : Bool} {e err : Int} (h : err ≠ 0) : mustE ok e err = err := by
 unfold mustE
 rw [if_neg h]
 split <;> rfl
theorem mustE_bad {e err : Int} (h : e ≠ 0) : mustE false e err ≠ 0 := by
 unfold mustE
 rw [if_neg (by decide)]
 split
 ·exact h
 ·assumption
section
variable {Wz w0 w w' : World} {g : Nat} {G : Int} {A : Option Addr} {m c : Nat} {locs err : Int}
set_option maxHeartbeats 16000000 in
set_option maxRecDepth 100000 in
theorem rhead_any (P R V : Int) (A3 : Option Addr) (n3 c3 : Nat) (n : Int) (h : Wk Wz w0 w g G A m c locs err) (hl0 : 0 ≤ locs) (hl1 : locs ≤ 1099511627776) :
  Calls Tryd.prog 35 #[.pointer (some ⟨g, 0, none⟩), .agg #[.int .i64 P, .int .i64 R, .int .i64 V, .slice A3 n3 c3], .int .i64 n] w fun r w' =>
   r = .returned (.tuple #[]) ∧ Wk Wz w0 w' g G A m c (rheadL locs P R V n err) (rheadE locs P R V n err) := by
 have HH := Az.mk h
 have HB := Az.mk (Below.refl w.heap.size w)
 have HGl : Az (g < w.heap.size) := ⟨blk_lt HH.out.blk⟩
 have hw1 : wrap64 (locs + 1) = locs + 1 := wrap_in (by omega) (by omega)
 have HL := Az.mk (And.intro hl0 hl1)
 clear h hl0 hl1
 go_enter Tryd.func35, Tryd.ntmps35
 go_wp2_with (first | ((with_reducible refine gate_dst (N := 4) rfl ?_); refine box_event ?hg (N := 4) ?hd (cs := #[.int .i64 P, .int .i64 R, .int .i64 V, .slice A3 n3 c3]) (t := 46) ?hr ?_; (case hd => rfl); (case hg => rfl); (case hr => first | (go_simp; done) | (go_simp; rfl)); intro g4 hg w4 hbox hb; have G4 : Az (w.heap.size ≤ g4) := ⟨by have := HB.out.size; omega⟩; replace HB := Az.mk (HB.out.trans (hb.mono HB.out.size)); replace HH := Az.mk (HH.out.below hb); have BK4 := Az.mk hbox; clear hg hbox hb; have NE : Az (g4 ≠ g) := ⟨by have := G4.out; have := HGl.out; omega⟩; have q0 : w4.cell? ⟨g4, 0, none⟩ = some (.int .i64 P) := (bZ BK4.out 0).trans rfl; have q1 : w4.cell? ⟨g4, 1, none⟩ = some (.int .i64 R) := (bZ BK4.out 1).trans rfl; have q2 : w4.cell? ⟨g4, 2, none⟩ = some (.int .i64 V) := (bZ BK4.out 2).trans rfl; have q3 : w4.cell? ⟨g4, 3, none⟩ = some (.slice A3 n3 c3) := (bZ BK4.out 3).trans rfl) | ((with_reducible refine gate_dst (N := 8) rfl ?_); refine Az.out ?_))
 by_cases t0 : 0 ≤ P
 case neg =>
  have hb : headB P R V n = false := by rw [Bool.eq_false_iff]; unfold headB; simp only [ne_eq, Bool.and_eq_true, decide_eq_true_eq]; omega
  have hA : rheadA P R V n err = mustE (decide (1 ≤ n)) 19 (mustE false 20 err) := by unfold rheadA; rw [hb]
  have hA0 : mustE (decide (1 ≤ n)) 19 (mustE false 20 err) ≠ 0 := by rw [mustE_ne (mustE_bad (by decide))]; exact mustE_bad (by decide)
  have hL : rheadL locs P R V n err = locs := by unfold rheadL; rw [hA, if_neg hA0]
  have hE : rheadE locs P R V n err = mustE (decide (locs + 1 ≤ 1048576)) 21 (mustE (decide (1 ≤ n)) 19 (mustE false 20 err)) := by unfold rheadE; rw [hL, hA]
  have HLE := Az.mk (And.intro hL hE)
  have s0 : decide (0 ≤ P) = false := decide_eq_false t0
  have c0 : (mustE (decide (1 ≤ n)) 19 (mustE false 20 err) == 0) = false := beq_eq_false_iff_ne.2 hA0
  clear hb hA hA0 hL hE t0
  refine ⟨?_⟩
  go_wp2_with fail
  refine (wmust_any _ _ HH.out.at_).mono ?_
  rintro e wm1 ⟨rfl, hW⟩
  clear q0 q1 q2 q3
  replace BK4 := Az.mk (hW.kp.blk BK4.out NE.out (by simp))
  replace HH := Az.mk (HH.out.trans hW)
  clear hW
  have q0 : wm1.cell? ⟨g4, 0, none⟩ = some (.int .i64 P) := (bZ BK4.out 0).trans rfl
  have q1 : wm1.cell? ⟨g4, 1, none⟩ = some (.int .i64 R) := (bZ BK4.out 1).trans rfl
  have q2 : wm1.cell? ⟨g4, 2, none⟩ = some (.int .i64 V) := (bZ BK4.out 2).trans rfl
  have q3 : wm1.cell? ⟨g4, 3, none⟩ = some (.slice A3 n3 c3) := (bZ BK4.out 3).trans rfl
  go_wp2_with fail
  refine (wmust_any _ _ HH.out.at_).mono ?_
  rintro e wm2 ⟨rfl, hW⟩
  clear q0 q1 q2 q3
  replace BK4 := Az.mk (hW.kp.blk BK4.out NE.out (by simp))
  replace HH := Az.mk (HH.out.trans hW)
  clear hW
  have q0 : wm2.cell? ⟨g4, 0, none⟩ = some (.int .i64 P) := (bZ BK4.out 0).trans rfl
  have q1 : wm2.cell? ⟨g4, 1, none⟩ = some (.int .i64 R) := (bZ BK4.out 1).trans rfl
  have q2 : wm2.cell? ⟨g4, 2, none⟩ = some (.int .i64 V) := (bZ BK4.out 2).trans rfl
  have q3 : wm2.cell? ⟨g4, 3, none⟩ = some (.slice A3 n3 c3) := (bZ BK4.out 3).trans rfl
  have p3 := HH.out.c3
  have p2 := HH.out.c2
  go_wp2_with fail
  refine (wmust_any _ _ HH.out).mono ?_
  rintro e wz ⟨rfl, hW⟩
  have HH3 := Az.mk hW
  clear hW
  go_wp2_with fail
  go_end0
  refine ⟨rfl, ?_⟩
  rw [HLE.out.1, HLE.out.2]
  exact HH3.out
 by_cases t1 : P ≤ 8
 case neg =>
  have hb : headB P R V n = false := by rw [Bool.eq_false_iff]; unfold headB; simp only [ne_eq, Bool.and_eq_true, decide_eq_true_eq]; omega
  have hA : rheadA P R V n err = mustE (decide (1 ≤ n)) 19 (mustE false 20 err) := by unfold rheadA; rw [hb]
  have hA0 : mustE (decide (1 ≤ n)) 19 (mustE false 20 err) ≠ 0 := by rw [mustE_ne (mustE_bad (by decide))]; exact mustE_bad (by decide)
  have hL : rheadL locs P R V n err = locs := by unfold rheadL; rw [hA, if_neg hA0]
  have hE : rheadE locs P R V n err = mustE (decide (locs + 1 ≤ 1048576)) 21 (mustE (decide (1 ≤ n)) 19 (mustE false 20 err)) := by unfold rheadE; rw [hL, hA]
  have HLE := Az.mk (And.intro hL hE)
  have s0 : decide (0 ≤ P) = true := decide_eq_true t0
  have s1 : decide (P ≤ 8) = false := decide_eq_false t1
  have c0 : (mustE (decide (1 ≤ n)) 19 (mustE false 20 err) == 0) = false := beq_eq_false_iff_ne.2 hA0
  clear hb hA hA0 hL hE t0 t1
  refine ⟨?_⟩
  go_wp2_with fail
  refine (wmust_any _ _ HH.out.at_).mono ?_
  rintro e wm1 ⟨rfl, hW⟩
  clear q0 q1 q2 q3
  replace BK4 := Az.mk (hW.kp.blk BK4.out NE.out (by simp))
  replace HH := Az.mk (HH.out.trans hW)
  clear hW
  have q0 : wm1.cell? ⟨g4, 0, none⟩ = some (.int .i64 P) := (bZ BK4.out 0).trans rfl
  have q1 : wm1.cell? ⟨g4, 1, none⟩ = some (.int .i64 R) := (bZ BK4.out 1).trans rfl
  have q2 : wm1.cell? ⟨g4, 2, none⟩ = some (.int .i64 V) := (bZ BK4.out 2).trans rfl
  have q3 : wm1.cell? ⟨g4, 3, none⟩ = some (.slice A3 n3 c3) := (bZ BK4.out 3).trans rfl
  go_wp2_with fail
  refine (wmust_any _ _ HH.out.at_).mono ?_
  rintro e wm2 ⟨rfl, hW⟩
  clear q0 q1 q2 q3
  replace BK4 := Az.mk (hW.kp.blk BK4.out NE.out (by simp))
  replace HH := Az.mk (HH.out.trans hW)
  clear hW
  have q0 : wm2.cell? ⟨g4, 0, none⟩ = some (.int .i64 P) := (bZ BK4.out 0).trans rfl
  have q1 : wm2.cell? ⟨g4, 1, none⟩ = some (.int .i64 R) := (bZ BK4.out 1).trans rfl
  have q2 : wm2.cell? ⟨g4, 2, none⟩ = some (.int .i64 V) := (bZ BK4.out 2).trans rfl
  have q3 : wm2.cell? ⟨g4, 3, none⟩ = some (.slice A3 n3 c3) := (bZ BK4.out 3).trans rfl
  have p3 := HH.out.c3
  have p2 := HH.out.c2
  go_wp2_with fail
  refine (wmust_any _ _ HH.out).mono ?_
  rintro e wz ⟨rfl, hW⟩
  have HH3 := Az.mk hW
  clear hW
  go_wp2_with fail
  go_end0
  refine ⟨rfl, ?_⟩
  rw [HLE.out.1, HLE.out.2]
  exact HH3.out
 by_cases t2 : P ≤ V
 case neg =>
  have hb : headB P R V n = false := by rw [Bool.eq_false_iff]; unfold headB; simp only [ne_eq, Bool.and_eq_true, decide_eq_true_eq]; omega
  have hA : rheadA P R V n err = mustE (decide (1 ≤ n)) 19 (mustE false 20 err) := by unfold rheadA; rw [hb]
  have hA0 : mustE (decide (1 ≤ n)) 19 (mustE false 20 err) ≠ 0 := by rw [mustE_ne (mustE_bad (by decide))]; exact mustE_bad (by decide)
  have hL : rheadL locs P R V n err = locs := by unfold rheadL; rw [hA, if_neg hA0]
  have hE : rheadE locs P R V n err = mustE (decide (locs + 1 ≤ 1048576)) 21 (mustE (decide (1 ≤ n)) 19 (mustE false 20 err)) := by unfold rheadE; rw [hL, hA]
  have HLE := Az.mk (And.intro hL hE)
  have s0 : decide (0 ≤ P) = true := decide_eq_true t0
  have s1 : decide (P ≤ 8) = true := decide_eq_true t1
  have s2 : decide (P ≤ V) = false := decide_eq_false t2
  have c0 : (mustE (decide (1 ≤ n)) 19 (mustE false 20 err) == 0) = false := beq_eq_false_iff_ne.2 hA0
  clear hb hA hA0 hL hE t0 t1 t2
  refine ⟨?_⟩
  go_wp2_with fail
  refine (wmust_any _ _ HH.out.at_).mono ?_
  rintro e wm1 ⟨rfl, hW⟩
  clear q0 q1 q2 q3
  replace BK4 := Az.mk (hW.kp.blk BK4.out NE.out (by simp))
  replace HH := Az.mk (HH.out.trans hW)
  clear hW
  have q0 : wm1.cell? ⟨g4, 0, none⟩ = some (.int .i64 P) := (bZ BK4.out 0).trans rfl
  have q1 : wm1.cell? ⟨g4, 1, none⟩ = some (.int .i64 R) := (bZ BK4.out 1).trans rfl
  have q2 : wm1.cell? ⟨g4, 2, none⟩ = some (.int .i64 V) := (bZ BK4.out 2).trans rfl
  have q3 : wm1.cell? ⟨g4, 3, none⟩ = some (.slice A3 n3 c3) := (bZ BK4.out 3).trans rfl
  go_wp2_with fail
  refine (wmust_any _ _ HH.out.at_).mono ?_
  rintro e wm2 ⟨rfl, hW⟩
  clear q0 q1 q2 q3
  replace BK4 := Az.mk (hW.kp.blk BK4.out NE.out (by simp))
  replace HH := Az.mk (HH.out.trans hW)
  clear hW
  have q0 : wm2.cell? ⟨g4, 0, none⟩ = some (.int .i64 P) := (bZ BK4.out 0).trans rfl
  have q1 : wm2.cell? ⟨g4, 1, none⟩ = some (.int .i64 R) := (bZ BK4.out 1).trans rfl
  have q2 : wm2.cell? ⟨g4, 2, none⟩ = some (.int .i64 V) := (bZ BK4.out 2).trans rfl
  have q3 : wm2.cell? ⟨g4, 3, none⟩ = some (.slice A3 n3 c3) := (bZ BK4.out 3).trans rfl
  have p3 := HH.out.c3
  have p2 := HH.out.c2
  go_wp2_with fail
  refine (wmust_any _ _ HH.out).mono ?_
  rintro e wz ⟨rfl, hW⟩
  have HH3 := Az.mk hW
  clear hW
  go_wp2_with fail
  go_end0
  refine ⟨rfl, ?_⟩
  rw [HLE.out.1, HLE.out.2]
  exact HH3.out
 by_cases t3 : 0 ≤ R
 case neg =>
  have hb : headB P R V n = false := by rw [Bool.eq_false_iff]; unfold headB; simp only [ne_eq, Bool.and_eq_true, decide_eq_true_eq]; omega
  have hA : rheadA P R V n err = mustE (decide (1 ≤ n)) 19 (mustE false 20 err) := by unfold rheadA; rw [hb]
  have hA0 : mustE (decide (1 ≤ n)) 19 (mustE false 20 err) ≠ 0 := by rw [mustE_ne (mustE_bad (by decide))]; exact mustE_bad (by decide)
  have hL : rheadL locs P R V n err = locs := by unfold rheadL; rw [hA, if_neg hA0]
  have hE : rheadE locs P R V n err = mustE (decide (locs + 1 ≤ 1048576)) 21 (mustE (decide (1 ≤ n)) 19 (mustE false 20 err)) := by unfold rheadE; rw [hL, hA]
  have HLE := Az.mk (And.intro hL hE)
  have s0 : decide (0 ≤ P) = true := decide_eq_true t0
  have s1 : decide (P ≤ 8) = true := decide_eq_true t1
  have s2 : decide (P ≤ V) = true := decide_eq_true t2
  have s3 : decide (0 ≤ R) = false := decide_eq_false t3
  have c0 : (mustE (decide (1 ≤ n)) 19 (mustE false 20 err) == 0) = false := beq_eq_false_iff_ne.2 hA0
  clear hb hA hA0 hL hE t0 t1 t2 t3
  refine ⟨?_⟩
  go_wp2_with fail
  refine (wmust_any _ _ HH.out.at_).mono ?_
  rintro e wm1 ⟨rfl, hW⟩
  clear q0 q1 q2 q3
  replace BK4 := Az.mk (hW.kp.blk BK4.out NE.out (by simp))
  replace HH := Az.mk (HH.out.trans hW)
  clear hW
  have q0 : wm1.cell? ⟨g4, 0, none⟩ = some (.int .i64 P) := (bZ BK4.out 0).trans rfl
  have q1 : wm1.cell? ⟨g4, 1, none⟩ = some (.int .i64 R) := (bZ BK4.out 1).trans rfl
  have q2 : wm1.cell? ⟨g4, 2, none⟩ = some (.int .i64 V) := (bZ BK4.out 2).trans rfl
  have q3 : wm1.cell? ⟨g4, 3, none⟩ = some (.slice A3 n3 c3) := (bZ BK4.out 3).trans rfl
  go_wp2_with fail
  refine (wmust_any _ _ HH.out.at_).mono ?_
  rintro e wm2 ⟨rfl, hW⟩
  clear q0 q1 q2 q3
  replace BK4 := Az.mk (hW.kp.blk BK4.out NE.out (by simp))
  replace HH := Az.mk (HH.out.trans hW)
  clear hW
  have q0 : wm2.cell? ⟨g4, 0, none⟩ = some (.int .i64 P) := (bZ BK4.out 0).trans rfl
  have q1 : wm2.cell? ⟨g4, 1, none⟩ = some (.int .i64 R) := (bZ BK4.out 1).trans rfl
  have q2 : wm2.cell? ⟨g4, 2, none⟩ = some (.int .i64 V) := (bZ BK4.out 2).trans rfl
  have q3 : wm2.cell? ⟨g4, 3, none⟩ = some (.slice A3 n3 c3) := (bZ BK4.out 3).trans rfl
  have p3 := HH.out.c3
  have p2 := HH.out.c2
  go_wp2_with fail
  refine (wmust_any _ _ HH.out).mono ?_
  rintro e wz ⟨rfl, hW⟩
  have HH3 := Az.mk hW
  clear hW
  go_wp2_with fail
  go_end0
  refine ⟨rfl, ?_⟩
  rw [HLE.out.1, HLE.out.2]
  exact HH3.out
 by_cases t4 : R ≤ 4
 case neg =>
  have hb : headB P R V n = false := by rw [Bool.eq_false_iff]; unfold headB; simp only [ne_eq, Bool.and_eq_true, decide_eq_true_eq]; omega
  have hA : rheadA P R V n err = mustE (decide (1 ≤ n)) 19 (mustE false 20 err) := by unfold rheadA; rw [hb]
  have hA0 : mustE (decide (1 ≤ n)) 19 (mustE false 20 err) ≠ 0 := by rw [mustE_ne (mustE_bad (by decide))]; exact mustE_bad (by decide)
  have hL : rheadL locs P R V n err = locs := by unfold rheadL; rw [hA, if_neg hA0]
  have hE : rheadE locs P R V n err = mustE (decide (locs + 1 ≤ 1048576)) 21 (mustE (decide (1 ≤ n)) 19 (mustE false 20 err)) := by unfold rheadE; rw [hL, hA]
  have HLE := Az.mk (And.intro hL hE)
  have s0 : decide (0 ≤ P) = true := decide_eq_true t0
  have s1 : decide (P ≤ 8) = true := decide_eq_true t1
  have s2 : decide (P ≤ V) = true := decide_eq_true t2
  have s3 : decide (0 ≤ R) = true := decide_eq_true t3
  have s4 : decide (R ≤ 4) = false := decide_eq_false t4
  have c0 : (mustE (decide (1 ≤ n)) 19 (mustE false 20 err) == 0) = false := beq_eq_false_iff_ne.2 hA0
  clear hb hA hA0 hL hE t0 t1 t2 t3 t4
  refine ⟨?_⟩
  go_wp2_with fail
  refine (wmust_any _ _ HH.out.at_).mono ?_
  rintro e wm1 ⟨rfl, hW⟩
  clear q0 q1 q2 q3
  replace BK4 := Az.mk (hW.kp.blk BK4.out NE.out (by simp))
  replace HH := Az.mk (HH.out.trans hW)
  clear hW
  have q0 : wm1.cell? ⟨g4, 0, none⟩ = some (.int .i64 P) := (bZ BK4.out 0).trans rfl
  have q1 : wm1.cell? ⟨g4, 1, none⟩ = some (.int .i64 R) := (bZ BK4.out 1).trans rfl
  have q2 : wm1.cell? ⟨g4, 2, none⟩ = some (.int .i64 V) := (bZ BK4.out 2).trans rfl
  have q3 : wm1.cell? ⟨g4, 3, none⟩ = some (.slice A3 n3 c3) := (bZ BK4.out 3).trans rfl
  go_wp2_with fail
  refine (wmust_any _ _ HH.out.at_).mono ?_
  rintro e wm2 ⟨rfl, hW⟩
  clear q0 q1 q2 q3
  replace BK4 := Az.mk (hW.kp.blk BK4.out NE.out (by simp))
  replace HH := Az.mk (HH.out.trans hW)
  clear hW
  have q0 : wm2.cell? ⟨g4, 0, none⟩ = some (.int .i64 P) := (bZ BK4.out 0).trans rfl
  have q1 : wm2.cell? ⟨g4, 1, none⟩ = some (.int .i64 R) := (bZ BK4.out 1).trans rfl
  have q2 : wm2.cell? ⟨g4, 2, none⟩ = some (.int .i64 V) := (bZ BK4.out 2).trans rfl
  have q3 : wm2.cell? ⟨g4, 3, none⟩ = some (.slice A3 n3 c3) := (bZ BK4.out 3).trans rfl
  have p3 := HH.out.c3
  have p2 := HH.out.c2
  go_wp2_with fail
  refine (wmust_any _ _ HH.out).mono ?_
  rintro e wz ⟨rfl, hW⟩
  have HH3 := Az.mk hW
  clear hW
  go_wp2_with fail
  go_end0
  refine ⟨rfl, ?_⟩
  rw [HLE.out.1, HLE.out.2]
  exact HH3.out
 by_cases t5 : V ≤ 255
 case neg =>
  have hb : headB P R V n = false := by rw [Bool.eq_false_iff]; unfold headB; simp only [ne_eq, Bool.and_eq_true, decide_eq_true_eq]; omega
  have hA : rheadA P R V n err = mustE (decide (1 ≤ n)) 19 (mustE false 20 err) := by unfold rheadA; rw [hb]
  have hA0 : mustE (decide (1 ≤ n)) 19 (mustE false 20 err) ≠ 0 := by rw [mustE_ne (mustE_bad (by decide))]; exact mustE_bad (by decide)
  have hL : rheadL locs P R V n err = locs := by unfold rheadL; rw [hA, if_neg hA0]
  have hE : rheadE locs P R V n err = mustE (decide (locs + 1 ≤ 1048576)) 21 (mustE (decide (1 ≤ n)) 19 (mustE false 20 err)) := by unfold rheadE; rw [hL, hA]
  have HLE := Az.mk (And.intro hL hE)
  have s0 : decide (0 ≤ P) = true := decide_eq_true t0
  have s1 : decide (P ≤ 8) = true := decide_eq_true t1
  have s2 : decide (P ≤ V) = true := decide_eq_true t2
  have s3 : decide (0 ≤ R) = true := decide_eq_true t3
  have s4 : decide (R ≤ 4) = true := decide_eq_true t4
  have s5 : decide (V ≤ 255) = false := decide_eq_false t5
  have c0 : (mustE (decide (1 ≤ n)) 19 (mustE false 20 err) == 0) = false := beq_eq_false_iff_ne.2 hA0
  clear hb hA hA0 hL hE t0 t1 t2 t3 t4 t5
  refine ⟨?_⟩
  go_wp2_with fail
  refine (wmust_any _ _ HH.out.at_).mono ?_
  rintro e wm1 ⟨rfl, hW⟩
  clear q0 q1 q2 q3
  replace BK4 := Az.mk (hW.kp.blk BK4.out NE.out (by simp))
  replace HH := Az.mk (HH.out.trans hW)
  clear hW
  have q0 : wm1.cell? ⟨g4, 0, none⟩ = some (.int .i64 P) := (bZ BK4.out 0).trans rfl
  have q1 : wm1.cell? ⟨g4, 1, none⟩ = some (.int .i64 R) := (bZ BK4.out 1).trans rfl
  have q2 : wm1.cell? ⟨g4, 2, none⟩ = some (.int .i64 V) := (bZ BK4.out 2).trans rfl
  have q3 : wm1.cell? ⟨g4, 3, none⟩ = some (.slice A3 n3 c3) := (bZ BK4.out 3).trans rfl
  go_wp2_with fail
  refine (wmust_any _ _ HH.out.at_).mono ?_
  rintro e wm2 ⟨rfl, hW⟩
  clear q0 q1 q2 q3
  replace BK4 := Az.mk (hW.kp.blk BK4.out NE.out (by simp))
  replace HH := Az.mk (HH.out.trans hW)
  clear hW
  have q0 : wm2.cell? ⟨g4, 0, none⟩ = some (.int .i64 P) := (bZ BK4.out 0).trans rfl
  have q1 : wm2.cell? ⟨g4, 1, none⟩ = some (.int .i64 R) := (bZ BK4.out 1).trans rfl
  have q2 : wm2.cell? ⟨g4, 2, none⟩ = some (.int .i64 V) := (bZ BK4.out 2).trans rfl
  have q3 : wm2.cell? ⟨g4, 3, none⟩ = some (.slice A3 n3 c3) := (bZ BK4.out 3).trans rfl
  have p3 := HH.out.c3
  have p2 := HH.out.c2
  go_wp2_with fail
  refine (wmust_any _ _ HH.out).mono ?_
  rintro e wz ⟨rfl, hW⟩
  have HH3 := Az.mk hW
  clear hW
  go_wp2_with fail
  go_end0
  refine ⟨rfl, ?_⟩
  rw [HLE.out.1, HLE.out.2]
  exact HH3.out
 have hb : headB P R V n = decide (n ≤ 4096) := by unfold headB; rw [decide_eq_true t0, decide_eq_true t1, decide_eq_true t2, decide_eq_true t3, decide_eq_true t4, decide_eq_true t5]; simp
 have hA : rheadA P R V n err = mustE (decide (1 ≤ n)) 19 (mustE (decide (n ≤ 4096)) 20 err) := by unfold rheadA; rw [hb]
 have s0 : decide (0 ≤ P) = true := decide_eq_true t0
 have s1 : decide (P ≤ 8) = true := decide_eq_true t1
 have s2 : decide (P ≤ V) = true := decide_eq_true t2
 have s3 : decide (0 ≤ R) = true := decide_eq_true t3
 have s4 : decide (R ≤ 4) = true := decide_eq_true t4
 have s5 : decide (V ≤ 255) = true := decide_eq_true t5
 have HV := Az.mk (show 0 ≤ V ∧ V ≤ 255 from ⟨by omega, t5⟩)
 clear hb t0 t1 t2 t3 t4 t5
 by_cases hA0 : mustE (decide (1 ≤ n)) 19 (mustE (decide (n ≤ 4096)) 20 err) = 0
 ·have hL : rheadL locs P R V n err = locs + V := by unfold rheadL; rw [hA, if_pos hA0]
  have hE : rheadE locs P R V n err = mustE (decide (locs + V + 1 ≤ 1048576)) 21 (mustE (decide (1 ≤ n)) 19 (mustE (decide (n ≤ 4096)) 20 err)) := by unfold rheadE; rw [hL, hA]
  have HLE := Az.mk (And.intro hL hE)
  have c0 : (mustE (decide (1 ≤ n)) 19 (mustE (decide (n ≤ 4096)) 20 err) == 0) = true := beq_iff_eq.2 hA0
  have hw3 : wrap64 (locs + V) = locs + V := wrap_in (by have := HL.out; have := HV.out; omega) (by have := HL.out; have := HV.out; omega)
  have hw4 : wrap64 (locs + V + 1) = locs + V + 1 := wrap_in (by have := HL.out; have := HV.out; omega) (by have := HL.out; have := HV.out; omega)
  clear hA hA0 hL hE
  refine ⟨?_⟩
  go_wp2_with fail
  refine (wmust_any _ _ HH.out.at_).mono ?_
  rintro e wm1 ⟨rfl, hW⟩
  clear q0 q1 q2 q3
  replace BK4 := Az.mk (hW.kp.blk BK4.out NE.out (by simp))
  replace HH := Az.mk (HH.out.trans hW)
  clear hW
  have q0 : wm1.cell? ⟨g4, 0, none⟩ = some (.int .i64 P) := (bZ BK4.out 0).trans rfl
  have q1 : wm1.cell? ⟨g4, 1, none⟩ = some (.int .i64 R) := (bZ BK4.out 1).trans rfl
  have q2 : wm1.cell? ⟨g4, 2, none⟩ = some (.int .i64 V) := (bZ BK4.out 2).trans rfl
  have q3 : wm1.cell? ⟨g4, 3, none⟩ = some (.slice A3 n3 c3) := (bZ BK4.out 3).trans rfl
  go_wp2_with fail
  refine (wmust_any _ _ HH.out.at_).mono ?_
  rintro e wm2 ⟨rfl, hW⟩
  clear q0 q1 q2 q3
  replace BK4 := Az.mk (hW.kp.blk BK4.out NE.out (by simp))
  replace HH := Az.mk (HH.out.trans hW)
  clear hW
  have q0 : wm2.cell? ⟨g4, 0, none⟩ = some (.int .i64 P) := (bZ BK4.out 0).trans rfl
  have q1 : wm2.cell? ⟨g4, 1, none⟩ = some (.int .i64 R) := (bZ BK4.out 1).trans rfl
  have q2 : wm2.cell? ⟨g4, 2, none⟩ = some (.int .i64 V) := (bZ BK4.out 2).trans rfl
  have q3 : wm2.cell? ⟨g4, 3, none⟩ = some (.slice A3 n3 c3) := (bZ BK4.out 3).trans rfl
  have p3 := HH.out.c3
  have p2 := HH.out.c2
  go_wp2_with fail
  refine start_ (n := 11) (S := fun w' => w'.cell? ⟨g, 2, none⟩ = some (.int .i64 locs) ∧ w'.cell? ⟨g4, 2, none⟩ = some (.int .i64 V)) (ds := [10]) #[false, false, false, false, false, false, false, false, false, false, false] (by kernel_rfl) rfl rfl ⟨p2, q2⟩ (fun hHeld => ?_)
  refine with_tabW TAB_35.tab5 TAB_35.bits5 (fun HT_ HW_ => ?_)
  refine pq 0 (some 53) HT_ rfl rfl (fun _ _ _ h => h) ?_
  refine pq 1 (some 54) HT_ rfl rfl (fun _ _ _ h => h) ?_
  refine pq 2 (some 55) HT_ rfl rfl (fun _ _ _ h => h) ?_
  refine pq 3 (some 56) HT_ rfl rfl (fun _ _ _ h => h) ?_
  refine pq 5 (some 58) HT_ rfl rfl (fun _ _ _ h => h) ?_
  refine pt 4 (some 57) (v := ?_) (a' := ?_) rfl rfl (take_ofW HT_.out HW_.out (by kernel_rfl)) (fun _ _ _ h => h) (Or.inl ⟨by rfl, ?_⟩) hHeld ?_ ?_
  rotate_left; (rintro w' ⟨s0, s1⟩; go_simp; with_reducible rfl); rotate_left; (simp only [Act.put, pn, i64_w, i32_w]; rfl)
  refine pt 6 (some 59) (v := ?_) (a' := ?_) rfl rfl (take_ofW HT_.out HW_.out (by kernel_rfl)) (fun _ _ _ h => h) (Or.inl ⟨by rfl, ?_⟩) hHeld ?_ ?_
  rotate_left; (rintro w' ⟨s0, s1⟩; go_simp; with_reducible rfl); rotate_left; (simp only [Act.put, pn, i64_w, i32_w]; rfl)
  refine pq 7 (some 60) HT_ rfl rfl (fun _ _ _ h => h) ?_
  refine pq 8 (some 61) HT_ rfl rfl (fun _ _ _ h => h) ?_
  refine pq 9 (some 62) HT_ rfl rfl (fun _ _ _ h => h) ?_
  refine last_ (i := 10) (N := none) #[true, true, true, true, true, true, true, true, true, true, true] rfl rfl (one_of HT_.out (by kernel_rfl)) (by decide) (fun K hK => ?_)
  have hcz : wm2.drew.cell? ⟨g, 2, none⟩ = some (.int .i64 locs) := p2
  have hfz : wm2.drew.frozen? ⟨g, 2, none⟩ = false := fZ HH.out.blk 2
  refine skip_ (w1 := ?_) (by rfl) rfl ?_ ?_
  rotate_left
  ·go_simp
   rfl
  clear hcz hfz
  refine hK.out _ _ ?_
  clear hK K
  refine done_ (done_of HT_.out (by kernel_rfl)) ?_
  clear HT_ HW_ hHeld
  have H6 : Az (Wk Wz w0 ((wm2.setCell ⟨g, 2, none⟩ (.int .i64 (locs + V))).drew) g G A m c (locs + V) _) := ⟨(HH.out.set2 _).drew⟩
  clear HH p2 p3 q0 q1 q2 q3
  have HH := H6
  clear H6
  have p2 := HH.out.c2
  go_wp2_with fail
  refine (wmust_any _ _ HH.out).mono ?_
  rintro e wz ⟨rfl, hW⟩
  have HH3 := Az.mk hW
  clear hW
  go_wp2_with fail
  go_end0
  refine ⟨rfl, ?_⟩
  rw [HLE.out.1, HLE.out.2]
  exact HH3.out
 ·have hL : rheadL locs P R V n err = locs := by unfold rheadL; rw [hA, if_neg hA0]
  have hE : rheadE locs P R V n err = mustE (decide (locs + 1 ≤ 1048576)) 21 (mustE (decide (1 ≤ n)) 19 (mustE (decide (n ≤ 4096)) 20 err)) := by unfold rheadE; rw [hL, hA]
  have HLE := Az.mk (And.intro hL hE)
  have c0 : (mustE (decide (1 ≤ n)) 19 (mustE (decide (n ≤ 4096)) 20 err) == 0) = false := beq_eq_false_iff_ne.2 hA0
  clear hA hA0 hL hE
  refine ⟨?_⟩
  go_wp2_with fail
  refine (wmust_any _ _ HH.out.at_).mono ?_
  rintro e wm1 ⟨rfl, hW⟩
  clear q0 q1 q2 q3
  replace BK4 := Az.mk (hW.kp.blk BK4.out NE.out (by simp))
  replace HH := Az.mk (HH.out.trans hW)
  clear hW
  have q0 : wm1.cell? ⟨g4, 0, none⟩ = some (.int .i64 P) := (bZ BK4.out 0).trans rfl
  have q1 : wm1.cell? ⟨g4, 1, none⟩ = some (.int .i64 R) := (bZ BK4.out 1).trans rfl
  have q2 : wm1.cell? ⟨g4, 2, none⟩ = some (.int .i64 V) := (bZ BK4.out 2).trans rfl
  have q3 : wm1.cell? ⟨g4, 3, none⟩ = some (.slice A3 n3 c3) := (bZ BK4.out 3).trans rfl
  go_wp2_with fail
  refine (wmust_any _ _ HH.out.at_).mono ?_
  rintro e wm2 ⟨rfl, hW⟩
  clear q0 q1 q2 q3
  replace BK4 := Az.mk (hW.kp.blk BK4.out NE.out (by simp))
  replace HH := Az.mk (HH.out.trans hW)
  clear hW
  have q0 : wm2.cell? ⟨g4, 0, none⟩ = some (.int .i64 P) := (bZ BK4.out 0).trans rfl
  have q1 : wm2.cell? ⟨g4, 1, none⟩ = some (.int .i64 R) := (bZ BK4.out 1).trans rfl
  have q2 : wm2.cell? ⟨g4, 2, none⟩ = some (.int .i64 V) := (bZ BK4.out 2).trans rfl
  have q3 : wm2.cell? ⟨g4, 3, none⟩ = some (.slice A3 n3 c3) := (bZ BK4.out 3).trans rfl
  have p3 := HH.out.c3
  have p2 := HH.out.c2
  go_wp2_with fail
  refine (wmust_any _ _ HH.out).mono ?_
  rintro e wz ⟨rfl, hW⟩
  have HH3 := Az.mk hW
  clear hW
  go_wp2_with fail
  go_end0
  refine ⟨rfl, ?_⟩
  rw [HLE.out.1, HLE.out.2]
  exact HH3.out
end
def At (bs : List Int) (p : Nat) (l : List Int) : Prop := l <+: bs.drop p
theorem At.nil (bs : List Int) (p : Nat) : At bs p [] := ⟨_, rfl⟩
theorem At.len {bs : List Int} {p : Nat} {l : List Int} (h : At bs p l) (hp : p ≤ bs.length) : p + l.length ≤ bs.length := by
 obtain ⟨t, h⟩ := h
 have := congrArg List.length h
 rw [List.length_append, List.length_drop] at this
 omega
def fld : PK → Nat
 | .R => 1
 | .S => 2
 | .T => 3
 | .args | .vals => 5
 | .rets => 6
 | _ => 4
def reads : PK → Nat → Bool
 | .args, i => i == 4 || i == 5
 | .rets, i => i == 4 || i == 6
 | pk, i => i == fld pk
section
variable {G : Int} {fs : List S46} {R V m : Int} {bs : List Int}
structure Small (G : Int) (fs : List S46) (R V m : Int) : Prop where
 g : G ≤ 255
 n : fs.length ≤ 65535
 r : R ≤ 255
 v : V ≤ 255
 m : m ≤ 65535
 a : ∀ i, (fs.getD i z46).f0 ≤ 255
 b : ∀ i, (fs.getD i z46).f1 ≤ 255
end
section
variable {G : Int} {fs : List S46} {R V m : Int} {bs : List Int}
def nm (ks : List PK) (i : Nat) : Bool := ks.any fun k => fld k == i
theorem plain_bits : ∀ (op : Fin 18) (b1 b2 b3 b4 b5 b6 : Bool), plainB (partsOf op.val) [b1, b2, b3, b4, b5, b6] = ((!b1 || nm (partsOf op.val) 1) && (!b2 || nm (partsOf op.val) 2) && (!b3 || nm (partsOf op.val) 3) && (!b4 || nm (partsOf op.val) 4) && (!b5 || nm (partsOf op.val) 5) && (!b6 || nm (partsOf op.val) 6)) := by decide +kernel
end
def seqE (err e : Int) : Int := if err = 0 then e else err
theorem seqE_zero (e : Int) : seqE 0 e = e := if_pos rfl
theorem seqE_ne {err e : Int} (h : err ≠ 0) : seqE err e = err := if_neg h
theorem seqE_right (err : Int) : seqE err 0 = err := by unfold seqE; split <;> omega
theorem seqE_assoc (a b c : Int) : seqE (seqE a b) c = seqE a (seqE b c) := by
 by_cases h : a = 0
 ·subst h; rw [seqE_zero, seqE_zero]
 ·rw [seqE_ne h, seqE_ne h, seqE_ne h]
theorem mustE_seq (ok : Bool) (e err : Int) : mustE ok e err = seqE err (if ok = true then 0 else e) := by
 unfold mustE
 cases ok
 ·simp only [Bool.false_eq_true, if_false]; rfl
 ·simp only [if_true]; exact (seqE_right err).symm
theorem var_seq (V v err : Int) : mustE (varB V v) 13 err = seqE err (varE V v) := by
 rw [mustE_seq]
 unfold varB varE
 by_cases h : 0 ≤ v ∧ v < V
 ·rw [if_pos h, decide_eq_true h.1, decide_eq_true h.2]; rfl
 ·rw [if_neg h, if_neg (by simp only [Bool.and_eq_true, decide_eq_true_eq]; exact h)]
theorem num_seq (G : Int) (fs : List S46) (R V n err : Int) (x : S50) (pk : PK) (h : numK pk = true) : mustE (numB_ G fs.length n (chOf pk) x.f4) (numC_ (chOf pk)) err = seqE err (partE G fs R V n x pk) := by
 rw [mustE_seq]
 have key : ∀ (lo E er : Int) (b : Bool), b = (decide (lo ≤ x.f4) && decide (x.f4 < E)) → (if b = true then (0 : Int) else er) = numE lo E er x.f4 := by
  intro lo E er b hb
  rw [hb]
  unfold numE
  by_cases h : lo ≤ x.f4 ∧ x.f4 < E
  ·rw [if_pos h, decide_eq_true h.1, decide_eq_true h.2]; rfl
  ·rw [if_neg h, if_neg (by simp only [Bool.and_eq_true, decide_eq_true_eq]; exact h)]
 cases pk
 case int => rfl
 case fields =>
  refine congrArg _ ((key 1 9 17 _ ?_))
  show (decide (1 ≤ x.f4) && decide (x.f4 ≤ 8)) = _
  rw [show decide (x.f4 ≤ 8) = decide (x.f4 < 9) from decide_eq_decide.2 (by omega)]
 case field => exact congrArg _ (key 0 8 17 _ rfl)
 case glob => exact congrArg _ (key 0 G 18 _ rfl)
 case func => exact congrArg _ (key 0 fs.length 14 _ rfl)
 case jump => exact congrArg _ (key 0 n 16 _ rfl)
 all_goals cases h
theorem nm_fields : ∀ op : Fin 18, (((partsOf op.val).any fun k => ((chOf k : Nat) : Int) == 82) = nm (partsOf op.val) 1) ∧ (((partsOf op.val).any fun k => ((chOf k : Nat) : Int) == 83) = nm (partsOf op.val) 2) ∧ (((partsOf op.val).any fun k => ((chOf k : Nat) : Int) == 84) = nm (partsOf op.val) 3) ∧
  (((((((partsOf op.val).any fun k => ((chOf k : Nat) : Int) == 105) || (partsOf op.val).any fun k => ((chOf k : Nat) : Int) == 99) || (partsOf op.val).any fun k => ((chOf k : Nat) : Int) == 102) || (partsOf op.val).any fun k => ((chOf k : Nat) : Int) == 103) || (partsOf op.val).any fun k => ((chOf k : Nat) : Int) == 70) || (partsOf op.val).any fun k => ((chOf k : Nat) : Int) == 74) = nm (partsOf op.val) 4 ∧
  ((((partsOf op.val).any fun k => ((chOf k : Nat) : Int) == 65) || (partsOf op.val).any fun k => ((chOf k : Nat) : Int) == 86) = nm (partsOf op.val) 5) ∧ (((partsOf op.val).any fun k => ((chOf k : Nat) : Int) == 66) = nm (partsOf op.val) 6) := by decide +kernel
theorem plain_same (x : S50) (h0 : 0 ≤ x.f0) (h : x.f0 < 18) : plainR x = plainB (partsOf x.f0.toNat) (usesB x) := by
 have hb := plain_bits ⟨x.f0.toNat, by omega⟩ (x.f1 != 0) (x.f2 != 0) (x.f3 != 0) (x.f4 != 0) (decide (0 < x.f5.length)) (decide (0 < x.f6.length))
 obtain ⟨n1, n2, n3, n4, n5, n6⟩ := nm_fields ⟨x.f0.toNat, by omega⟩
 unfold usesB
 rw [show partsOf (⟨x.f0.toNat, by omega⟩ : Fin 18).val = partsOf x.f0.toNat from rfl] at hb
 rw [hb]
 unfold plainR plainN
 have m1 : nmS x.f0 82 = nm (partsOf x.f0.toNat) 1 := n1
 have m2 : nmS x.f0 83 = nm (partsOf x.f0.toNat) 2 := n2
 have m3 : nmS x.f0 84 = nm (partsOf x.f0.toNat) 3 := n3
 have m4 : (((((nmS x.f0 105 || nmS x.f0 99) || nmS x.f0 102) || nmS x.f0 103) || nmS x.f0 70) || nmS x.f0 74) = nm (partsOf x.f0.toNat) 4 := n4
 have m5 : (nmS x.f0 65 || nmS x.f0 86) = nm (partsOf x.f0.toNat) 5 := n5
 have m6 : nmS x.f0 66 = nm (partsOf x.f0.toNat) 6 := n6
 rw [m1, m2, m3, m4, m5, m6]
 have e5 : ((x.f5.length : Int) == 0) = !decide (0 < x.f5.length) := by rw [Bool.eq_iff_iff]; simp
 have e6 : ((x.f6.length : Int) == 0) = !decide (0 < x.f6.length) := by rw [Bool.eq_iff_iff]; simp
 rw [e5, e6]
 simp only [bne, Bool.not_not, Bool.and_assoc]
theorem isOp_iff (op : Int) : isOp op = decide (1 ≤ op ∧ op < 18) := by
 unfold isOp
 by_cases h : 1 ≤ op ∧ op < 18
 ·rw [decide_eq_true h]
  obtain ⟨n, rfl⟩ := Int.eq_ofNat_of_zero_le (show 0 ≤ op by omega)
  have : ∀ k : Fin 18, 1 ≤ k.val → (!(prS ((k.val : Nat) : Int)).toList.isEmpty) = true := by decide +kernel
  exact this ⟨n, by omega⟩ (by show 1 ≤ n; omega)
 ·rw [decide_eq_false h, prS_out (by omega)]
  decide +kernel
theorem op_seq (locs : Int) (x : S50) (last : Bool) (err : Int) (hl : locs < 1048576) : ropE locs x last err = seqE err (opE locs x last) := by
 unfold ropE
 rw [mustE_seq, mustE_seq, mustE_seq, mustE_seq, seqE_assoc, seqE_assoc, seqE_assoc, isOp_iff]
 refine congrArg _ ?_
 unfold opE
 by_cases h0 : 1 ≤ x.f0 ∧ x.f0 < 18
 ·rw [decide_eq_true h0, if_pos rfl, if_pos h0, seqE_zero, plain_same x (by omega) h0.2]
  by_cases h1 : plainB (partsOf x.f0.toNat) (usesB x) = true
  ·rw [if_pos h1, if_pos h1, seqE_zero]
   have e : (!last || (x.f0 == 13 || x.f0 == 15)) = true ↔ (last = false ∨ x.f0 = 13 ∨ x.f0 = 15) := by
    cases last <;> simp
   by_cases h2 : last = false ∨ x.f0 = 13 ∨ x.f0 = 15
   ·rw [if_pos (e.2 h2), if_pos h2, seqE_zero]
    unfold newL
    by_cases h6 : x.f0 = 6
    ·rw [if_pos h6, if_pos h6]
     by_cases h7 : locs + 1 < 1048576
     ·rw [if_pos h7, if_pos (by rw [decide_eq_true_eq]; omega)]
     ·rw [if_neg h7, if_neg (by rw [decide_eq_true_eq]; omega)]
    ·rw [if_neg h6, if_neg h6, if_pos (by rw [decide_eq_true_eq]; omega)]
   ·rw [if_neg (fun h => h2 (e.1 h)), if_neg h2, seqE_ne (by decide)]
  ·rw [if_neg h1, if_neg h1, seqE_ne (by decide)]
 ·rw [decide_eq_false h0, if_neg (by decide), if_neg h0, seqE_ne (by decide)]
theorem head_ref (locs P R V n : Int) : rheadE locs P R V n 0 = headE locs P R V n ∧ (headE locs P R V n = 0 → rheadL locs P R V n 0 = locs + V) := by
 unfold rheadE rheadL headE
 have hA : rheadA P R V n 0 = if headB P R V n = true then (if 1 ≤ n then 0 else 19) else 20 := by
  unfold rheadA
  rw [mustE_seq, mustE_seq, seqE_zero]
  by_cases h1 : headB P R V n = true
  ·rw [if_pos h1, if_pos h1, seqE_zero]; simp only [decide_eq_true_eq]
  ·rw [if_neg h1, if_neg h1, seqE_ne (by decide)]
 rw [mustE_seq, hA]
 by_cases h1 : headB P R V n = true
 ·rw [if_pos h1, if_pos h1]
  by_cases h2 : 1 ≤ n
  ·rw [if_pos h2, if_pos h2, if_pos rfl, seqE_zero]
   refine ⟨?_, fun _ => rfl⟩
   by_cases h3 : locs + V < 1048576
   ·rw [if_pos h3, if_pos (by rw [decide_eq_true_eq]; omega)]
   ·rw [if_neg h3, if_neg (by rw [decide_eq_true_eq]; omega)]
  ·rw [if_neg h2, if_neg h2, seqE_ne (by decide)]
   exact ⟨rfl, fun h => absurd h (by decide)⟩
 ·rw [if_neg h1, if_neg h1, seqE_ne (by decide)]
  exact ⟨rfl, fun h => absurd h (by decide)⟩
def TAB_95.T3 : Bool × List (List Nat × List Nat) := (true, [([], []), ([0], [0]), ([1], [1]), ([2], [2]), ([3], [3]), ([], []), ([5], [5]), ([4, 6], [4, 6]), ([7], [7]), ([8], [8]), ([9, 0, 1, 2, 3, 4, 5, 6, 7, 8, 9], [9])])
def TAB_95.B3 : List Nat := [0, 1, 3, 7, 15, 0, 32, 127, 255, 511, 1023]
theorem TAB_95.tab3 : rtab .any (opsOf Tryd.f95 3) = TAB_95.T3 := by kernel_rfl
theorem TAB_95.bits3 : waitsOk TAB_95.T3.2 TAB_95.B3 = true := by kernel_rfl
def TAB_95.T5 : Bool × List (List Nat × List Nat) := (true, [([], []), ([0], [0]), ([1], [1]), ([2], [2]), ([3], [3]), ([], []), ([5], [5]), ([4, 6], [4, 6]), ([7], [7]), ([8], [8]), ([9, 0, 1, 2, 3, 4, 5, 6, 7, 8, 9], [9])])
def TAB_95.B5 : List Nat := [0, 1, 3, 7, 15, 0, 32, 127, 255, 511, 1023]
theorem TAB_95.tab5 : rtab .any (opsOf Tryd.f95 5) = TAB_95.T5 := by kernel_rfl
theorem TAB_95.bits5 : waitsOk TAB_95.T5.2 TAB_95.B5 = true := by kernel_rfl
section
variable {Wz w0 w w' : World} {g : Nat} {G : Int} {A : Option Addr} {m c : Nat} {locs err : Int}
def WantW (w : World) (A : Option Addr) (m : Nat) (p R : Int) (f4 want : Int) : Prop :=
 (p = 65 ∧ ∃ (q : Nat) (ad : Addr), f4 = (q : Int) ∧ q < m ∧ A = some ad ∧ w.cell? (ad.add (q * 4)) = some (.int .i64 want)) ∨
 (p = 66 ∧ ∃ (q : Nat) (ad : Addr), f4 = (q : Int) ∧ q < m ∧ A = some ad ∧ w.cell? ⟨(ad.add (q * 4)).block, (ad.add (q * 4)).off + 1, none⟩ = some (.int .i64 want)) ∨
 (p = 86 ∧ want = R)
set_option maxHeartbeats 16000000 in
set_option maxRecDepth 100000 in
theorem rwant_any (p P R V : Int) (A3 : Option Addr) (n3 c3 : Nat) (f0 f1 f2 f3 f4 : Int) (A5 : Option Addr) (n5 c5 : Nat) (A6 : Option Addr) (n6 c6 : Nat) (want : Int) (h : Wk Wz w0 w g G A m c locs err) (hw : WantW w A m p R f4 want) (hm : m ≤ 9223372036854775807) :
  Calls Tryd.prog 95 #[.pointer (some ⟨g, 0, none⟩), .int .u8 p, .agg #[.int .i64 P, .int .i64 R, .int .i64 V, .slice A3 n3 c3], .agg #[.int .i64 f0, .int .i64 f1, .int .i64 f2, .int .i64 f3, .int .i64 f4, .slice A5 n5 c5, .slice A6 n6 c6]] w fun r w' =>
   r = .returned (.int .i64 want) ∧ Wk Wz w0 w' g G A m c locs err := by
 have HH := Az.mk h
 have HB := Az.mk (Below.refl w.heap.size w)
 have Hm := Az.mk hm
 clear h hm
 rcases hw with ⟨rfl, q, ad, rfl, hq, rfl, hc⟩ | ⟨rfl, q, ad, rfl, hq, rfl, hc⟩ | ⟨rfl, hR⟩
 ·have HC := Az.mk hc
  have hq0 : (0 : Int) ≤ (q : Int) := Int.natCast_nonneg q
  have hq1 : (q : Int) < (m : Int) := Int.ofNat_lt.2 hq
  clear hc hq
  go_enter Tryd.func95, Tryd.ntmps95
  go_wp2_with (first | ((with_reducible refine gate_dst (N := 6) rfl ?_); refine box_event ?hg (N := 6) ?hd (cs := #[.int .i64 P, .int .i64 R, .int .i64 V, .slice A3 n3 c3]) (t := 46) ?hr ?_; (case hd => rfl); (case hg => rfl); (case hr => first | (go_simp; done) | (go_simp; rfl)); intro g6 hg w6 hbox hb; have G6 : Az (w.heap.size ≤ g6) := ⟨by have := HB.out.size; omega⟩; replace HB := Az.mk (HB.out.trans (hb.mono HB.out.size)); replace HH := Az.mk (HH.out.below hb); replace HC := Az.mk (cZ hb HC.out); have BK6 := Az.mk hbox; clear hg hbox hb) | ((with_reducible refine gate_dst (N := 7) rfl ?_); refine box_event ?hg (N := 7) ?hd (cs := #[.int .i64 f0, .int .i64 f1, .int .i64 f2, .int .i64 f3, .int .i64 (q : Int), .slice A5 n5 c5, .slice A6 n6 c6]) (t := 50) ?hr ?_; (case hd => rfl); (case hg => rfl); (case hr => first | (go_simp; done) | (go_simp; rfl)); intro g7 hg w7 hbox hb; have G7 : Az (w.heap.size ≤ g7) := ⟨by have := HB.out.size; omega⟩; replace HB := Az.mk (HB.out.trans (hb.mono HB.out.size)); replace HH := Az.mk (HH.out.below hb); replace HC := Az.mk (cZ hb HC.out); replace BK6 := Az.mk (kZ BK6.out hb); have BK7 := Az.mk hbox; clear hg hbox hb; have p1 := HH.out.c1; have p4 : w7.cell? ⟨g7, 4, none⟩ = some (.int .i64 (q : Int)) := (bZ BK7.out 4).trans rfl; have ph := HC.out))
  refine start_ (n := 11) (S := fun w' => w'.cell? ⟨g, 1, none⟩ = some (.slice (some ad) m c) ∧ w'.cell? ⟨g7, 4, none⟩ = some (.int .i64 (q : Int)) ∧ w'.cell? (ad.add (q * 4)) = some (.int .i64 want)) (ds := []) #[false, false, false, false, false, false, false, false, false, false, false] (by kernel_rfl) rfl rfl ⟨p1, p4, ph⟩ (fun hHeld => ?_)
  refine with_tabW TAB_95.tab3 TAB_95.bits3 (fun HT_ HW_ => ?_)
  refine pq 0 (some 12) HT_ rfl rfl (fun _ _ _ h => h) ?_
  refine pq 1 (some 13) HT_ rfl rfl (fun _ _ _ h => h) ?_
  refine pq 2 (some 14) HT_ rfl rfl (fun _ _ _ h => h) ?_
  refine pq 3 (some 15) HT_ rfl rfl (fun _ _ _ h => h) ?_
  refine pq 5 (some 17) HT_ rfl rfl (fun _ _ _ h => h) ?_
  refine pt 4 (some 16) (v := ?_) (a' := ?_) rfl rfl (take_ofW HT_.out HW_.out (by kernel_rfl)) (fun _ _ _ h => h) (Or.inl ⟨by rfl, ?_⟩) hHeld ?_ ?_
  rotate_left; (rintro w' ⟨s0, s1, s2⟩; go_simp; with_reducible rfl); rotate_left; (simp only [Act.put, pn, i64_w, i32_w]; rfl)
  refine pt 6 (some 18) (v := ?_) (a' := ?_) rfl rfl (take_ofW HT_.out HW_.out (by kernel_rfl)) (fun _ _ _ h => h) (Or.inl ⟨by rfl, ?_⟩) hHeld ?_ ?_
  rotate_left; (rintro w' ⟨s0, s1, s2⟩; go_simp; with_reducible rfl); rotate_left; (simp only [Act.put, pn, i64_w, i32_w]; rfl)
  refine pq 7 (some 19) HT_ rfl rfl (fun _ _ _ h => h) ?_
  refine pq 8 (some 20) HT_ rfl rfl (fun _ _ _ h => h) ?_
  refine pt 9 (some 21) (v := ?_) (a' := ?_) rfl rfl (take_ofW HT_.out HW_.out (by kernel_rfl)) (fun _ _ _ h => h) (Or.inl ⟨by rfl, ?_⟩) hHeld ?_ ?_
  rotate_left; (rintro w' ⟨s0, s1, s2⟩; go_simp; with_reducible rfl); rotate_left; (simp only [Act.put, pn, i64_w, i32_w]; rfl)
  refine pq 10 (some 8) HT_ rfl rfl (fun _ _ _ h => h) ?_
  refine done_ (done_of HT_.out (by kernel_rfl)) ?_
  clear HT_ HW_ hHeld
  go_wp2_with fail
  go_ret
  exact ⟨rfl, HH.out.drew⟩
 ·have HC := Az.mk hc
  have hq0 : (0 : Int) ≤ (q : Int) := Int.natCast_nonneg q
  have hq1 : (q : Int) < (m : Int) := Int.ofNat_lt.2 hq
  clear hc hq
  go_enter Tryd.func95, Tryd.ntmps95
  go_wp2_with (first | ((with_reducible refine gate_dst (N := 6) rfl ?_); refine box_event ?hg (N := 6) ?hd (cs := #[.int .i64 P, .int .i64 R, .int .i64 V, .slice A3 n3 c3]) (t := 46) ?hr ?_; (case hd => rfl); (case hg => rfl); (case hr => first | (go_simp; done) | (go_simp; rfl)); intro g6 hg w6 hbox hb; have G6 : Az (w.heap.size ≤ g6) := ⟨by have := HB.out.size; omega⟩; replace HB := Az.mk (HB.out.trans (hb.mono HB.out.size)); replace HH := Az.mk (HH.out.below hb); replace HC := Az.mk (cZ hb HC.out); have BK6 := Az.mk hbox; clear hg hbox hb) | ((with_reducible refine gate_dst (N := 7) rfl ?_); refine box_event ?hg (N := 7) ?hd (cs := #[.int .i64 f0, .int .i64 f1, .int .i64 f2, .int .i64 f3, .int .i64 (q : Int), .slice A5 n5 c5, .slice A6 n6 c6]) (t := 50) ?hr ?_; (case hd => rfl); (case hg => rfl); (case hr => first | (go_simp; done) | (go_simp; rfl)); intro g7 hg w7 hbox hb; have G7 : Az (w.heap.size ≤ g7) := ⟨by have := HB.out.size; omega⟩; replace HB := Az.mk (HB.out.trans (hb.mono HB.out.size)); replace HH := Az.mk (HH.out.below hb); replace HC := Az.mk (cZ hb HC.out); replace BK6 := Az.mk (kZ BK6.out hb); have BK7 := Az.mk hbox; clear hg hbox hb; have p1 := HH.out.c1; have p4 : w7.cell? ⟨g7, 4, none⟩ = some (.int .i64 (q : Int)) := (bZ BK7.out 4).trans rfl; have ph := HC.out))
  refine start_ (n := 11) (S := fun w' => w'.cell? ⟨g, 1, none⟩ = some (.slice (some ad) m c) ∧ w'.cell? ⟨g7, 4, none⟩ = some (.int .i64 (q : Int)) ∧ w'.cell? ⟨(ad.add (q * 4)).block, (ad.add (q * 4)).off + 1, none⟩ = some (.int .i64 want)) (ds := []) #[false, false, false, false, false, false, false, false, false, false, false] (by kernel_rfl) rfl rfl ⟨p1, p4, ph⟩ (fun hHeld => ?_)
  refine with_tabW TAB_95.tab5 TAB_95.bits5 (fun HT_ HW_ => ?_)
  refine pq 0 (some 24) HT_ rfl rfl (fun _ _ _ h => h) ?_
  refine pq 1 (some 25) HT_ rfl rfl (fun _ _ _ h => h) ?_
  refine pq 2 (some 26) HT_ rfl rfl (fun _ _ _ h => h) ?_
  refine pq 3 (some 27) HT_ rfl rfl (fun _ _ _ h => h) ?_
  refine pq 5 (some 29) HT_ rfl rfl (fun _ _ _ h => h) ?_
  refine pt 4 (some 28) (v := ?_) (a' := ?_) rfl rfl (take_ofW HT_.out HW_.out (by kernel_rfl)) (fun _ _ _ h => h) (Or.inl ⟨by rfl, ?_⟩) hHeld ?_ ?_
  rotate_left; (rintro w' ⟨s0, s1, s2⟩; go_simp; with_reducible rfl); rotate_left; (simp only [Act.put, pn, i64_w, i32_w]; rfl)
  refine pt 6 (some 30) (v := ?_) (a' := ?_) rfl rfl (take_ofW HT_.out HW_.out (by kernel_rfl)) (fun _ _ _ h => h) (Or.inl ⟨by rfl, ?_⟩) hHeld ?_ ?_
  rotate_left; (rintro w' ⟨s0, s1, s2⟩; go_simp; with_reducible rfl); rotate_left; (simp only [Act.put, pn, i64_w, i32_w]; rfl)
  refine pq 7 (some 31) HT_ rfl rfl (fun _ _ _ h => h) ?_
  refine pq 8 (some 32) HT_ rfl rfl (fun _ _ _ h => h) ?_
  refine pt 9 (some 33) (v := ?_) (a' := ?_) rfl rfl (take_ofW HT_.out HW_.out (by kernel_rfl)) (fun _ _ _ h => h) (Or.inl ⟨by rfl, ?_⟩) hHeld ?_ ?_
  rotate_left; (rintro w' ⟨s0, s1, s2⟩; go_simp; with_reducible rfl); rotate_left; (simp only [Act.put, pn, i64_w, i32_w]; rfl)
  refine pq 10 (some 8) HT_ rfl rfl (fun _ _ _ h => h) ?_
  refine done_ (done_of HT_.out (by kernel_rfl)) ?_
  clear HT_ HW_ hHeld
  go_wp2_with fail
  go_ret
  exact ⟨rfl, HH.out.drew⟩
 ·rw [hR]
  clear hR
  go_enter Tryd.func95, Tryd.ntmps95
  go_wp2_with (first | ((with_reducible refine gate_dst (N := 6) rfl ?_); refine box_event ?hg (N := 6) ?hd (cs := #[.int .i64 P, .int .i64 R, .int .i64 V, .slice A3 n3 c3]) (t := 46) ?hr ?_; (case hd => rfl); (case hg => rfl); (case hr => first | (go_simp; done) | (go_simp; rfl)); intro g6 hg w6 hbox hb; have G6 : Az (w.heap.size ≤ g6) := ⟨by have := HB.out.size; omega⟩; replace HB := Az.mk (HB.out.trans (hb.mono HB.out.size)); replace HH := Az.mk (HH.out.below hb); have BK6 := Az.mk hbox; clear hg hbox hb) | ((with_reducible refine gate_dst (N := 7) rfl ?_); refine box_event ?hg (N := 7) ?hd (cs := #[.int .i64 f0, .int .i64 f1, .int .i64 f2, .int .i64 f3, .int .i64 f4, .slice A5 n5 c5, .slice A6 n6 c6]) (t := 50) ?hr ?_; (case hd => rfl); (case hg => rfl); (case hr => first | (go_simp; done) | (go_simp; rfl)); intro g7 hg w7 hbox hb; have G7 : Az (w.heap.size ≤ g7) := ⟨by have := HB.out.size; omega⟩; replace HB := Az.mk (HB.out.trans (hb.mono HB.out.size)); replace HH := Az.mk (HH.out.below hb); replace BK6 := Az.mk (kZ BK6.out hb); have BK7 := Az.mk hbox; clear hg hbox hb; have p1 : w7.cell? ⟨g6, 1, none⟩ = some (.int .i64 R) := (bZ BK6.out 1).trans rfl))
  go_wp2_with fail
  go_ret
  exact ⟨rfl, HH.out⟩
end
end Go.Proofs.YteonppgdmhakoaaDoor.PC
