/- The law WeighOrders, walked by hand. Conditions: lists of at most 1048576. -/
import Derived.Test.YtmjdiiockddalaaPWx3
import Derived.Test.YtmjdiiockddalaaPWx4
import Derived.Test.YtmjdiiockddalaaHOrdP
import Derived.Test.YtmjdiiockddalaaHArgs
namespace Go.Proofs.Ytmjdiiockddalaa.PW
open Go.RowKit Go.Maps Go.Proofs.YtmjdiiockddalaaW.PrintWords Go.Proofs.YtmjdiiockddalaaW.PrintLast Go.Proofs.YtmjdiiockddalaaW.PrintMore
set_option linter.unusedVariables false
set_option linter.unusedSimpArgs false
attribute [local go_sem] max2_int min2_int max_two min_two

theorem meet_any (d x : Int) (W : World) : Calls Try.prog 22 #[.int .i64 d, .int .i64 x] W fun e w' => e = .returned (.int .i64 (meet d x)) ∧ W = w' := by
  obtain ⟨a, ha⟩ : ∃ a, a = wt d := ⟨_, rfl⟩
  obtain ⟨b, hb⟩ : ∃ b, b = wt x := ⟨_, rfl⟩
  have HP : Aside0 (meet d x = mn a b) := ⟨by rw [ha, hb]; rfl⟩
  have C1 : Aside0 (∀ W, Calls Try.prog 35 #[.int .i64 d] W fun e w' => e = .returned (.int .i64 a) ∧ W = w') := ⟨fun W => by rw [ha]; exact weight_any d W⟩
  have C2 : Aside0 (∀ W, Calls Try.prog 35 #[.int .i64 x] W fun e w' => e = .returned (.int .i64 b) ∧ W = w') := ⟨fun W => by rw [hb]; exact weight_any x W⟩
  clear ha hb
  go_enter Try.func22, Try.ntmps22
  go_wp2_with fail
  refine (C1.out _).mono ?_
  rintro e w' ⟨rfl, rfl⟩
  go_wp2_with fail
  refine (C2.out _).mono ?_
  rintro e w' ⟨rfl, rfl⟩
  go_wp2
  all_goals
    go_ret
    refine ⟨ret_i ?_, rfl⟩
    rw [HP.out]
    unfold mn
    (repeat' split) <;> omega
/-- right, its graph as it reads. -/
theorem right_C {a : Int} {es : List S41} {rs : List Int} {n : Nat} {E : List S41} {R : List Int} (hev : Ev (fun k => fuguelaw06_right.f k a es rs) ((n : Int), E, R)) {W : World} {A1 c1 A2 c2} (g1 : k41.C W A1 es.length es) (l1 : es.length ≤ c1) (g2 : (Kd.int .i64).C W A2 rs.length rs) (l2 : rs.length ≤ c2) :
    Calls Try.prog 14 #[.agg #[.int .i64 a, .slice A1 es.length c1, .slice A2 rs.length c2]] W fun e w' => ∃ B1 d1 B2 d2, e = .returned (.agg #[.int .i64 n, .slice B1 E.length d1, .slice B2 R.length d2]) ∧ E.length ≤ d1 ∧ k41.C w' B1 E.length E ∧ R.length ≤ d2 ∧ (Kd.int .i64).C w' B2 R.length R ∧ Below W.heap.size W w' := by
  obtain ⟨k, h⟩ := hev.rounds
  refine (fuguelaw06_right.calls k a A1 c1 es A2 c2 rs n E R W g1 l1 g2 l2 h).mono ?_
  rintro e w' ⟨v1, v2, rfl, h1, h2, hb⟩
  obtain ⟨B1, d1, rfl, q1, q2⟩ := Kd.R_reads h1
  obtain ⟨B2, d2, rfl, q3, q4⟩ := Kd.R_reads h2
  exact ⟨B1, d1, B2, d2, rfl, q1, q2, q3, q4, hb⟩
/-- From, its row as it reads. -/
theorem from_C {n : Int} {es : List S41} {rs b : List Int} (hf : weigh_From.f n es rs = some (b, 0)) {W : World} {A1 c1 A2 c2} (g1 : k41.C W A1 es.length es) (l1 : es.length ≤ c1) (g2 : (Kd.int .i64).C W A2 rs.length rs) (l2 : rs.length ≤ c2) :
    Calls Try.prog 15 #[.int .i64 n, .slice A1 es.length c1, .slice A2 rs.length c2] W fun e w' => ∃ B d, e = .returned (.tuple #[.slice B b.length d, .int .i64 0]) ∧ Kd.R (Kd.int .i64) 3 w' W.heap.size (fun _ => True) (.slice B b.length d) b ∧ Below W.heap.size W w' := by
  refine (weigh_From.calls n A1 c1 es A2 c2 rs b 0 W g1 l1 g2 l2 hf).mono ?_
  rintro e w' ⟨v, rfl, h1, hb⟩
  obtain ⟨B1, d1, rfl, q1, q2⟩ := Kd.R_reads h1
  exact ⟨B1, d1, rfl, h1, hb⟩
theorem eqints_any {x y : List Int} {W : World} {A1 c1 A2 c2} (hl : x.length ≤ 9223372036854775807) (g1 : (Kd.int .i64).C W A1 x.length x) (l1 : x.length ≤ c1) (g2 : (Kd.int .i64).C W A2 y.length y) (l2 : y.length ≤ c2) (he : x = y) :
    Calls Try.prog 19 #[.slice A1 x.length c1, .slice A2 y.length c2] W fun e w' => e = .returned (.bool true) ∧ Drawn0 W w' := by
  obtain ⟨k, h⟩ := (eqints_ev x y hl).rounds
  rw [beq_iff_eq.2 he] at h
  exact fugueref00_EqInts.calls k A1 c1 x A2 c2 y true W g1 l1 g2 l2 h
theorem int_next (q : Nat) : (q : Int) + 1 = ((q + 1 : Nat) : Int) := rfl
theorem meas_next {n q : Nat} (hw : wrap64 ((q : Int) + 1) = (q : Int) + 1) (h : q < n) : n - (intOf (Value.int .i64 (wrap64 ((q : Int) + 1)))).toNat < n - (intOf (Value.int .i64 (q : Int))).toNat := by rw [hw]; simp [intOf]; omega
def TAB_9.T11 : Bool × List (List Nat × List Nat) := (true, [([], []), ([], []), ([1], [1]), ([], []), ([], []), ([3, 4], [3, 4]), ([5], [5]), ([], []), ([7], [7]), ([8], [8]), ([6, 9], [6, 9]), ([2, 10], [2, 10]), ([11], [11]), ([12], [12]), ([0, 13, 10], [0, 13]), ([14, 14, 0, 1, 2, 3, 4, 5, 6, 7, 8, 9, 10, 11, 12, 13, 14], [0, 14])])
def TAB_9.B11 : List Nat := [0, 0, 2, 0, 0, 24, 56, 0, 128, 384, 1016, 2046, 4094, 8190, 16383, 32767]
theorem TAB_9.tab11 : rtab .any (opsOf Try.f9 11) = TAB_9.T11 := by kernel_rfl
theorem TAB_9.bits11 : waitsOk TAB_9.T11.2 TAB_9.B11 = true := by kernel_rfl
def TAB_9.T13 : Bool × List (List Nat × List Nat) := (true, [([], []), ([], []), ([1], [1]), ([], []), ([], []), ([3, 4], [3, 4]), ([5], [5]), ([], []), ([7], [7]), ([8], [8]), ([6, 9], [6, 9]), ([2, 10], [2, 10]), ([11], [11]), ([12], [12]), ([0, 13, 10], [0, 13]), ([14, 14, 0, 1, 2, 3, 4, 5, 6, 7, 8, 9, 10, 11, 12, 13, 14], [0, 14])])
def TAB_9.B13 : List Nat := [0, 0, 2, 0, 0, 24, 56, 0, 128, 384, 1016, 2046, 4094, 8190, 16383, 32767]
theorem TAB_9.tab13 : rtab .any (opsOf Try.f9 13) = TAB_9.T13 := by kernel_rfl
theorem TAB_9.bits13 : waitsOk TAB_9.T13.2 TAB_9.B13 = true := by kernel_rfl
def TAB_9.T42 : Bool × List (List Nat × List Nat) := (true, [([], []), ([], []), ([0, 1], [0, 1]), ([2], [2]), ([], []), ([], []), ([4, 5], [4, 5]), ([6], [6]), ([3, 7], [3, 7]), ([8], [8]), ([9], [9]), ([9], [9]), ([10, 11, 9], [9, 10, 11]), ([12, 9], [9, 12]), ([9], [9]), ([9], [9]), ([14, 15, 9], [9, 14, 15]), ([16, 9], [9, 16]), ([9], [9]), ([9], [9]), ([18, 19, 9], [9, 18, 19]), ([20, 9], [9, 20]), ([17, 21, 9, 9], [9, 17, 21]), ([13, 22, 9], [9, 13, 22]), ([9, 23], [9, 23])])
def TAB_9.B42 : List Nat := [0, 0, 3, 7, 0, 0, 48, 112, 255, 511, 1023, 1023, 4095, 8191, 1023, 1023, 50175, 115711, 1023, 1023, 787455, 1836031, 4178943, 8388607, 16777215]
theorem TAB_9.tab42 : rtab .any (opsOf Try.f9 42) = TAB_9.T42 := by kernel_rfl
theorem TAB_9.bits42 : waitsOk TAB_9.T42.2 TAB_9.B42 = true := by kernel_rfl
set_option maxRecDepth 100000 in
set_option maxHeartbeats 8000000 in
theorem orders_good (a0 : Int) (A1 : Option Addr) (c1 : Nat) (l1 : List S41) (A2 : Option Addr) (c2 : Nat) (l2 : List Int) (A3 : Option Addr) (c3 : Nat) (l3 : List Int) (a4 : Int) (A4 : Option Addr) (c4 : Nat) (l4 : List S41) (A5 : Option Addr) (c5 : Nat) (l5 : List Int) (w : World)
    (hr1 : Kd.C k41 w A1 l1.length l1) (hc1 : l1.length ≤ c1) (hr2 : Kd.C (Kd.int .i64) w A2 l2.length l2) (hc2 : l2.length ≤ c2) (hr3 : Kd.C (Kd.int .i64) w A3 l3.length l3) (hc3 : l3.length ≤ c3) (hr4 : Kd.C k41 w A4 l4.length l4) (hc4 : l4.length ≤ c4) (hr5 : Kd.C (Kd.int .i64) w A5 l5.length l5) (hc5 : l5.length ≤ c5)
    (b1 : l1.length ≤ 1048576) (b2 : l2.length ≤ 1048576) (b3 : l3.length ≤ 1048576) (b4 : l4.length ≤ 1048576) (b5 : l5.length ≤ 1048576) :
    Calls Try.prog 9 #[.agg #[.int .i64 a0, .slice A1 l1.length c1, .slice A2 l2.length c2], .slice A3 l3.length c3, .agg #[.int .i64 a4, .slice A4 l4.length c4, .slice A5 l5.length c5]] w fun e w' => e = .returned (.bool true) ∧ Below w.heap.size w w' := by
  obtain ⟨n, E, R, bx, hn1, hn2, hna, hE, hR, hg, hev, hf, hs⟩ := right_all a0 l1 l2 (by omega) (by omega)
  obtain ⟨n', mE, mR, _, _, _, hna', hmE, hmR, hgm, hevm, _, _⟩ := right_all a0 l4 l5 (by omega) (by omega)
  obtain rfl : n = n' := by omega
  obtain ⟨bw, hfw, hsw⟩ := from_good_f (n := n) (es := E) (rs := mR) (by omega) (by omega) ⟨hg.1, hgm.2⟩
  have HR1 := Aside0.mk hr1
  have HR2 := Aside0.mk hr2
  have HR3 := Aside0.mk hr3
  have HR4 := Aside0.mk hr4
  have HR5 := Aside0.mk hr5
  have HC1 := Aside0.mk hc1
  have HC2 := Aside0.mk hc2
  have HC3 := Aside0.mk hc3
  have HC4 := Aside0.mk hc4
  have HC5 := Aside0.mk hc5
  have HEv := Aside0.mk hev
  have HEm := Aside0.mk hevm
  have HF := Aside0.mk hf
  have HFw := Aside0.mk hfw
  have HG := Aside0.mk hg
  have HGm := Aside0.mk hgm
  have HS := Aside0.mk hs
  have HSw := Aside0.mk hsw
  have HFx := Aside0.mk fixed_any
  have HLE : Aside0 (E.length ≤ 1048576 ∧ R.length ≤ 1048576 ∧ mE.length ≤ 1048576 ∧ mR.length ≤ 1048576) := ⟨by omega⟩
  have HB0 := Aside0.mk (Below.refl w.heap.size w)
  clear hr1 hr2 hr3 hr4 hr5 hc1 hc2 hc3 hc4 hc5 hev hevm hf hfw hg hgm hs hsw hna hna' hE hR hmE hmR
  go_enter Try.func9, Try.ntmps9
  go_wp2_with (first | ((with_reducible refine gate_dst (N := 3) rfl ?_); refine box_event ?hg (N := 3) ?hd (cs := #[.int .i64 a0, .slice A1 l1.length c1, .slice A2 l2.length c2]) (t := 31) ?hr ?_; (case hd => rfl); (case hg => rfl); (case hr => first | (go_simp; done) | (go_simp; rfl)); intro g3 hg w1 hbox hb; have HG3 := Aside0.mk (hg ▸ Nat.le_refl _ : w.heap.size ≤ g3); have BK3 := Aside0.mk hbox; have HB := Aside0.mk hb; clear HB0 hg hbox hb) | ((with_reducible refine gate_dst (N := 5) rfl ?_); refine box_event ?hg (N := 5) ?hd (cs := #[.int .i64 a4, .slice A4 l4.length c4, .slice A5 l5.length c5]) (t := 31) ?hr ?_; (case hd => rfl); (case hg => rfl); (case hr => first | (go_simp; done) | (go_simp; rfl)); intro g5 hg w2 hbox hb; have BK3_ := Aside0.mk (blk_below BK3.out hb); have BK5 := Aside0.mk hbox; have HB_ := Aside0.mk (HB.out.trans (hb.mono HB.out.size)); clear HB BK3 hg hbox hb; have BK3 := BK3_; have HB := HB_; clear BK3_ HB_))
  refine (HFx.out _).mono ?_
  rintro e w3 ⟨rfl, hb⟩
  have BK3_ := Aside0.mk (blk_below BK3.out hb)
  have BK5_ := Aside0.mk (blk_below BK5.out hb)
  have HB_ := Aside0.mk (HB.out.trans (hb.mono HB.out.size))
  clear BK3 BK5 HB hb
  have hz0 : w3.cell? ⟨g3, 0, none⟩ = some (.int .i64 a0) := (blk_cell BK3_.out 0).trans rfl
  have hz1 : w3.cell? ⟨g3, 1, none⟩ = some (.slice A1 l1.length c1) := (blk_cell BK3_.out 1).trans rfl
  have hz2 : w3.cell? ⟨g3, 2, none⟩ = some (.slice A2 l2.length c2) := (blk_cell BK3_.out 2).trans rfl
  go_wp2_with fail
  refine (right_C HEv.out (Kd.C_below HR1.out HB_.out) HC1.out (Kd.C_below HR2.out HB_.out) HC2.out).mono ?_
  rintro e w4 ⟨B1, d1, B2, d2, rfl, q1, gE, q2, gR, hb⟩
  have HqE := Aside0.mk q1
  have HqR := Aside0.mk q2
  have HE := Aside0.mk (Kd.C_below gE (below_alloc (Below.refl _ _) (Obj.cells #[Value.int IntKind.i64 (n : Int), Value.slice B1 E.length d1, Value.slice B2 R.length d2] 31)))
  have HR := Aside0.mk (Kd.C_below gR (below_alloc (Below.refl _ _) (Obj.cells #[Value.int IntKind.i64 (n : Int), Value.slice B1 E.length d1, Value.slice B2 R.length d2] 31)))
  have BK5 := Aside0.mk (blk_alloc (blk_below BK5_.out hb) (Obj.cells #[Value.int IntKind.i64 (n : Int), Value.slice B1 E.length d1, Value.slice B2 R.length d2] 31))
  have BK3 := Aside0.mk (blk_alloc (blk_below BK3_.out hb) (Obj.cells #[Value.int IntKind.i64 (n : Int), Value.slice B1 E.length d1, Value.slice B2 R.length d2] 31))
  have BK8 := Aside0.mk (heap_alloc_new w4 (Obj.cells #[Value.int IntKind.i64 (n : Int), Value.slice B1 E.length d1, Value.slice B2 R.length d2] 31))
  have HB := Aside0.mk (below_alloc (HB_.out.trans (hb.mono HB_.out.size)) (Obj.cells #[Value.int IntKind.i64 (n : Int), Value.slice B1 E.length d1, Value.slice B2 R.length d2] 31))
  clear BK3_ BK5_ HB_ hz0 hz1 hz2 q1 q2 gE gR hb
  have hz0 : (w4.alloc (Obj.cells #[Value.int IntKind.i64 (n : Int), Value.slice B1 E.length d1, Value.slice B2 R.length d2] 31)).cell? ⟨g3, 0, none⟩ = some (.int .i64 a0) := (blk_cell BK3.out 0).trans rfl
  have hy1 : (w4.alloc (Obj.cells #[Value.int IntKind.i64 (n : Int), Value.slice B1 E.length d1, Value.slice B2 R.length d2] 31)).cell? ⟨g5, 1, none⟩ = some (.slice A4 l4.length c4) := (blk_cell BK5.out 1).trans rfl
  have hy2 : (w4.alloc (Obj.cells #[Value.int IntKind.i64 (n : Int), Value.slice B1 E.length d1, Value.slice B2 R.length d2] 31)).cell? ⟨g5, 2, none⟩ = some (.slice A5 l5.length c5) := (blk_cell BK5.out 2).trans rfl
  go_wp2_with fail
  obtain ⟨g8, hg8⟩ : ∃ g, g = w4.heap.size := ⟨_, rfl⟩
  rw [← hg8] at BK8 ⊢
  clear hg8
  generalize (w4.alloc (Obj.cells #[Value.int IntKind.i64 (n : Int), Value.slice B1 E.length d1, Value.slice B2 R.length d2] 31)) = w5 at *
  refine (right_C HEm.out (Kd.C_below HR4.out HB.out) HC4.out (Kd.C_below HR5.out HB.out) HC5.out).mono ?_
  rintro e w6 ⟨B4, d4, B5, d5, rfl, q1, gE, q2, gR, hb⟩
  have HqmE := Aside0.mk q1
  have HqmR := Aside0.mk q2
  have HE_ := Aside0.mk (Kd.C_below HE.out (below_alloc hb (Obj.cells #[Value.int IntKind.i64 (n : Int), Value.slice B4 mE.length d4, Value.slice B5 mR.length d5] 31)))
  have HR_ := Aside0.mk (Kd.C_below HR.out (below_alloc hb (Obj.cells #[Value.int IntKind.i64 (n : Int), Value.slice B4 mE.length d4, Value.slice B5 mR.length d5] 31)))
  have HmE := Aside0.mk (Kd.C_below gE (below_alloc (Below.refl _ _) (Obj.cells #[Value.int IntKind.i64 (n : Int), Value.slice B4 mE.length d4, Value.slice B5 mR.length d5] 31)))
  have HmR := Aside0.mk (Kd.C_below gR (below_alloc (Below.refl _ _) (Obj.cells #[Value.int IntKind.i64 (n : Int), Value.slice B4 mE.length d4, Value.slice B5 mR.length d5] 31)))
  have BK8_ := Aside0.mk (blk_alloc (blk_below BK8.out hb) (Obj.cells #[Value.int IntKind.i64 (n : Int), Value.slice B4 mE.length d4, Value.slice B5 mR.length d5] 31))
  have BK9 := Aside0.mk (heap_alloc_new w6 (Obj.cells #[Value.int IntKind.i64 (n : Int), Value.slice B4 mE.length d4, Value.slice B5 mR.length d5] 31))
  have HB_ := Aside0.mk (below_alloc (HB.out.trans (hb.mono HB.out.size)) (Obj.cells #[Value.int IntKind.i64 (n : Int), Value.slice B4 mE.length d4, Value.slice B5 mR.length d5] 31))
  clear BK3 BK5 HB hz0 hy1 hy2 q1 q2 gE gR hb HE HR BK8
  have hz0 : (w6.alloc (Obj.cells #[Value.int IntKind.i64 (n : Int), Value.slice B4 mE.length d4, Value.slice B5 mR.length d5] 31)).cell? ⟨g8, 0, none⟩ = some (.int .i64 (n : Int)) := (blk_cell BK8_.out 0).trans rfl
  have hz1 : (w6.alloc (Obj.cells #[Value.int IntKind.i64 (n : Int), Value.slice B4 mE.length d4, Value.slice B5 mR.length d5] 31)).cell? ⟨g8, 1, none⟩ = some (.slice B1 E.length d1) := (blk_cell BK8_.out 1).trans rfl
  have hz2 : (w6.alloc (Obj.cells #[Value.int IntKind.i64 (n : Int), Value.slice B4 mE.length d4, Value.slice B5 mR.length d5] 31)).cell? ⟨g8, 2, none⟩ = some (.slice B2 R.length d2) := (blk_cell BK8_.out 2).trans rfl
  go_wp2_with fail
  obtain ⟨g9, hg9⟩ : ∃ g, g = w6.heap.size := ⟨_, rfl⟩
  rw [← hg9] at BK9 ⊢
  clear hg9
  generalize (w6.alloc (Obj.cells #[Value.int IntKind.i64 (n : Int), Value.slice B4 mE.length d4, Value.slice B5 mR.length d5] 31)) = w7 at *
  refine (from_C HF.out HE_.out HqE.out HR_.out HqR.out).mono ?_
  rintro e w8 ⟨B6, d6, rfl, hx, hb⟩
  have Hqx := Aside0.mk (Kd.R_reads' hx).2.1
  have Hx := Aside0.mk (Kd.R_reads' hx).2.2
  have HE := Aside0.mk (Kd.C_below HE_.out hb)
  have HR := Aside0.mk (Kd.C_below HR_.out hb)
  have HmE_ := Aside0.mk (Kd.C_below HmE.out hb)
  have HmR_ := Aside0.mk (Kd.C_below HmR.out hb)
  have BK8 := Aside0.mk (blk_below BK8_.out hb)
  have BK9_ := Aside0.mk (blk_below BK9.out hb)
  have HB := Aside0.mk (HB_.out.trans (hb.mono HB_.out.size))
  clear HE_ HR_ HmE HmR BK8_ BK9 HB_ hx hb hz0 hz1 hz2
  obtain rfl : bx.length = n := HS.out.len
  go_wp2_with fail
  go_loopw [12, 13, 14] (fun v12 v13 v14 w' => ∃ (q : Nat) (es : List S41) (rs : List Int), q ≤ l3.length ∧ v14 = .int .i64 q ∧ Aside0 (es.length ≤ q ∧ ∀ e ∈ es, e ∈ E) ∧ Aside0 (rs.length ≤ q ∧ ∀ r ∈ rs, r ∈ R) ∧ Aside0 (Kd.R k41 41 w' w8.heap.size (fun _ => True) v12 es) ∧ Aside0 (Kd.R (Kd.int .i64) 3 w' w8.heap.size (fun _ => True) v13 rs) ∧ Aside0 (Below w8.heap.size w8 w')) (fun _ _ i _ => l3.length - (intOf i).toNat)
  case atStart => exact ⟨0, [], [], Nat.zero_le _, rfl, ⟨by simp⟩, ⟨by simp⟩, ⟨Kd.R_nil _ _ _ _ _⟩, ⟨Kd.R_nil _ _ _ _ _⟩, ⟨Below.refl _ _⟩⟩
  case round =>
    obtain ⟨q, es, rs, hq, rfl, HEs, HRs, HO12, HO13, HBq⟩ := hrel
    have hz1 : wr.cell? ⟨g8, 1, none⟩ = some (.slice B1 E.length d1) := (HBq.out.cell (blk_lt BK8.out)).trans ((blk_cell BK8.out 1).trans rfl)
    have hz2 : wr.cell? ⟨g8, 2, none⟩ = some (.slice B2 R.length d2) := (HBq.out.cell (blk_lt BK8.out)).trans ((blk_cell BK8.out 2).trans rfl)
    by_cases hlt : q < l3.length
    · have h0 : (0 : Int) ≤ q := by omega
      have h1 : (q : Int) < l3.length := by omega
      obtain ⟨ad3, e0, hx0⟩ := Kd.at_int HR3.out (q : Int) h0 h1
      cases e0
      simp only [Int.toNat_natCast] at hx0
      obtain ⟨z, hzz⟩ : ∃ z, z = rd l3 (q : Int) := ⟨_, rfl⟩
      rw [← hzz] at hx0
      clear hzz
      have F2 : w8.cell? (ad3.add q) = some (.int .i64 z) := pw_cell_below HB.out hx0
      have F1 : w8.cell? ⟨g8, 1, none⟩ = some (.slice B1 E.length d1) := (blk_cell BK8.out 1).trans rfl
      have G1 : w8.cell? ⟨g8, 2, none⟩ = some (.slice B2 R.length d2) := (blk_cell BK8.out 2).trans rfl
      clear hx0
      by_cases hE0 : E.length = 0
      · have hEd : decide (0 < (E.length : Int)) = false := decide_eq_false (by omega)
        by_cases hR0 : R.length = 0
        · have hRd : decide (0 < (R.length : Int)) = false := decide_eq_false (by omega)
          go_wp2_with fail
          go_roundw
          case rel => exact ⟨q + 1, es, rs, by omega, by go_num, ⟨by have := HEs.out.1; omega, HEs.out.2⟩, ⟨by have := HRs.out.1; omega, HRs.out.2⟩, HO12, HO13, HBq⟩
          case measure => simp [intOf]; omega
        · have hRd : decide (0 < (R.length : Int)) = true := decide_eq_true (by omega)
          have h3_ := Int.emod_nonneg z (show (R.length : Int) ≠ 0 by omega)
          have h4_ := Int.emod_lt_of_pos z (show (0 : Int) < R.length by omega)
          obtain ⟨t2, ht2⟩ := Int.eq_ofNat_of_zero_le h3_
          have ht2l : t2 < R.length := by omega
          have HMod2 : Aside0 (∀ W, Calls Try.prog 16 #[.int .i64 z, .int .i64 (R.length : Int)] W fun e w' => e = .returned (.int .i64 (t2 : Int)) ∧ Drawn0 W w') := ⟨fun W => fuguelaw06_mod.calls z R.length t2 W (by rw [mod_f _ _ (by omega) (by have := HLE.out; omega), ht2])⟩
          obtain ⟨adR, eR, G3⟩ := Kd.at_int HR.out (t2 : Int) (by omega) (by omega)
          cases eR
          simp only [Int.toNat_natCast] at G3
          obtain ⟨r2, hr2⟩ : ∃ r2, r2 = rd R (t2 : Int) := ⟨_, rfl⟩
          have HRm : Aside0 (r2 ∈ R) := ⟨by rw [hr2, rd_get R t2 ht2l]; exact List.getElem_mem _⟩
          rw [← hr2] at G3
          clear hr2 h3_ h4_ ht2
          have hu0 : (0 : Int) ≤ t2 := by omega
          have hu1 : (t2 : Int) < R.length := by omega
          go_wp2_with fail
          refine start_ (n := 16) (S := fun w' => w'.cell? ⟨g8, 2, none⟩ = some (.slice (some adR) R.length d2) ∧ w'.cell? (ad3.add q) = some (.int .i64 z) ∧ w'.cell? (adR.add t2) = some (.int .i64 r2)) (ds := []) #[false, false, false, false, false, false, false, false, false, false, false, false, false, false, false, false] (by kernel_rfl) rfl rfl ⟨pw_cell_below HBq.out G1, pw_cell_below HBq.out F2, pw_cell_below HBq.out G3⟩ (fun hHeld => ?_)
          refine with_tabW TAB_9.tab13 TAB_9.bits13 (fun HT_ HW_ => ?_)
          refine pure_ (i := 0) (N := some 77) (v := ?_) (a' := ?_) #[true, false, false, false, false, false, false, false, false, false, false, false, false, false, false, false] rfl rfl (any_of HT_.out (by kernel_rfl)) (fun _ _ _ h => h) (Or.inl ⟨by rfl, ?_⟩) ?_ ?_
          rotate_left
          · intro w'
            go_simp
            with_reducible rfl
          rotate_left
          · simp only [Act.put, List.setIfInBounds_toArray, List.set_cons_zero, List.set_cons_succ, i64_w, i32_w]
            rfl
          refine pure_ (i := 1) (N := some 78) (v := ?_) (a' := ?_) #[true, true, false, false, false, false, false, false, false, false, false, false, false, false, false, false] rfl rfl (any_of HT_.out (by kernel_rfl)) (fun _ _ _ h => h) (Or.inl ⟨by rfl, ?_⟩) ?_ ?_
          rotate_left
          · intro w'
            go_simp
            with_reducible rfl
          rotate_left
          · simp only [Act.put, List.setIfInBounds_toArray, List.set_cons_zero, List.set_cons_succ, i64_w, i32_w]
            rfl
          refine pure_ (i := 3) (N := some 80) (v := ?_) (a' := ?_) #[true, true, false, true, false, false, false, false, false, false, false, false, false, false, false, false] rfl rfl (any_of HT_.out (by kernel_rfl)) (fun _ _ _ h => h) (Or.inl ⟨by rfl, ?_⟩) ?_ ?_
          rotate_left
          · intro w'
            go_simp
            with_reducible rfl
          rotate_left
          · simp only [Act.put, List.setIfInBounds_toArray, List.set_cons_zero, List.set_cons_succ, i64_w, i32_w]
            rfl
          refine pure_ (i := 4) (N := some 81) (v := ?_) (a' := ?_) #[true, true, false, true, true, false, false, false, false, false, false, false, false, false, false, false] rfl rfl (any_of HT_.out (by kernel_rfl)) (fun _ _ _ h => h) (Or.inl ⟨by rfl, ?_⟩) ?_ ?_
          rotate_left
          · intro w'
            go_simp
            with_reducible rfl
          rotate_left
          · simp only [Act.put, List.setIfInBounds_toArray, List.set_cons_zero, List.set_cons_succ, i64_w, i32_w]
            rfl
          refine pure_ (i := 5) (N := some 82) (v := ?_) (a' := ?_) #[true, true, false, true, true, true, false, false, false, false, false, false, false, false, false, false] rfl rfl (any_of HT_.out (by kernel_rfl)) (fun _ _ _ h => h) (Or.inl ⟨by rfl, ?_⟩) ?_ ?_
          rotate_left
          · intro w'
            go_simp
            with_reducible rfl
          rotate_left
          · simp only [Act.put, List.setIfInBounds_toArray, List.set_cons_zero, List.set_cons_succ, i64_w, i32_w]
            rfl
          refine pure_ (i := 7) (N := some 84) (v := ?_) (a' := ?_) #[true, true, false, true, true, true, false, true, false, false, false, false, false, false, false, false] rfl rfl (any_of HT_.out (by kernel_rfl)) (fun _ _ _ h => h) (Or.inl ⟨by rfl, ?_⟩) ?_ ?_
          rotate_left
          · intro w'
            go_simp
            with_reducible rfl
          rotate_left
          · simp only [Act.put, List.setIfInBounds_toArray, List.set_cons_zero, List.set_cons_succ, i64_w, i32_w]
            rfl
          refine take_ (i := 2) (N := some 79) (v := ?_) (a' := ?_) #[true, true, true, true, true, true, false, true, false, false, false, false, false, false, false, false] rfl rfl (take_ofW HT_.out HW_.out (by kernel_rfl)) (fun _ _ _ h => h) (Or.inl ⟨by rfl, ?_⟩) hHeld ?_ ?_
          rotate_left
          · rintro w' ⟨s0, s1, s2⟩
            go_simp
            with_reducible rfl
          rotate_left
          · simp only [Act.put, List.setIfInBounds_toArray, List.set_cons_zero, List.set_cons_succ, i64_w, i32_w]
            rfl
          refine take_ (i := 6) (N := some 83) (v := ?_) (a' := ?_) #[true, true, true, true, true, true, true, true, false, false, false, false, false, false, false, false] rfl rfl (take_ofW HT_.out HW_.out (by kernel_rfl)) (fun _ _ _ h => h) (Or.inl ⟨by rfl, ?_⟩) hHeld ?_ ?_
          rotate_left
          · rintro w' ⟨s0, s1, s2⟩
            go_simp
            with_reducible rfl
          rotate_left
          · simp only [Act.put, List.setIfInBounds_toArray, List.set_cons_zero, List.set_cons_succ, i64_w, i32_w]
            rfl
          refine take_ (i := 8) (N := some 85) (v := ?_) (a' := ?_) #[true, true, true, true, true, true, true, true, true, false, false, false, false, false, false, false] rfl rfl (take_ofW HT_.out HW_.out (by kernel_rfl)) (fun _ _ _ h => h) (Or.inl ⟨by rfl, ?_⟩) hHeld ?_ ?_
          rotate_left
          · rintro w' ⟨s0, s1, s2⟩
            go_simp
            with_reducible rfl
          rotate_left
          · simp only [Act.put, List.setIfInBounds_toArray, List.set_cons_zero, List.set_cons_succ, i64_w, i32_w]
            rfl
          refine pure_ (i := 9) (N := some 86) (v := ?_) (a' := ?_) #[true, true, true, true, true, true, true, true, true, true, false, false, false, false, false, false] rfl rfl (any_of HT_.out (by kernel_rfl)) (fun _ _ _ h => h) (Or.inl ⟨by rfl, ?_⟩) ?_ ?_
          rotate_left
          · intro w'
            go_simp
            with_reducible rfl
          rotate_left
          · simp only [Act.put, List.setIfInBounds_toArray, List.set_cons_zero, List.set_cons_succ, i64_w, i32_w]
            rfl
          refine one_ (i := 10) (N := some 87) #[true, true, true, true, true, true, true, true, true, true, true, false, false, false, false, false] rfl rfl (one_of HT_.out (by kernel_rfl)) (by decide) (fun K hK => ?_)
          refine goes_ Try.func16 (by kernel_rfl) rfl #[.int .i64 z, .int .i64 (R.length : Int)] (by rfl) rfl rfl (by simp only [List.map_toArray, List.map_cons, List.map_nil]; rfl) ?_
          with_reducible refine (HMod2.out _).mono ?_
          rintro e_ w' ⟨rfl, ⟨nd, rfl⟩⟩
          refine ⟨_, rfl, ?_⟩
          refine hK.out _ _ ⟨pw_cell_below HBq.out G1, pw_cell_below HBq.out F2, pw_cell_below HBq.out G3⟩ (fun hHeld => ?_)
          clear hK K
          refine norm_ (a' := ?_) ?_ ?_
          rotate_left
          · show Act.put _ (some 87) _ = _
            simp only [Act.put, List.setIfInBounds_toArray, List.set_cons_zero, List.set_cons_succ, i64_w, i32_w]
            rfl
          refine pure_ (i := 11) (N := some 88) (v := ?_) (a' := ?_) #[true, true, true, true, true, true, true, true, true, true, true, true, false, false, false, false] rfl rfl (any_of HT_.out (by kernel_rfl)) (fun _ _ _ h => h) (Or.inl ⟨by rfl, ?_⟩) ?_ ?_
          rotate_left
          · intro w'
            go_simp
            with_reducible rfl
          rotate_left
          · simp only [Act.put, List.setIfInBounds_toArray, List.set_cons_zero, List.set_cons_succ, i64_w, i32_w]
            rfl
          refine take_ (i := 12) (N := some 89) (v := ?_) (a' := ?_) #[true, true, true, true, true, true, true, true, true, true, true, true, true, false, false, false] rfl rfl (take_ofW HT_.out HW_.out (by kernel_rfl)) (fun _ _ _ h => h) (Or.inl ⟨by rfl, ?_⟩) hHeld ?_ ?_
          rotate_left
          · rintro w' ⟨s0, s1, s2⟩
            go_simp
            with_reducible rfl
          rotate_left
          · simp only [Act.put, List.setIfInBounds_toArray, List.set_cons_zero, List.set_cons_succ, i64_w, i32_w]
            rfl
          refine one_ (i := 13) (N := some 90) #[true, true, true, true, true, true, true, true, true, true, true, true, true, true, false, false] rfl rfl (one_of HT_.out (by kernel_rfl)) (by decide) (fun K hK => ?_)
          refine value_ (w1 := ?_) (v := ?_) (by rfl) rfl ?_ ?_
          rotate_left 2
          · go_simp
            constructor
            · rfl
            · rfl
          refine hK.out _ _ ⟨pw_cell_below (below_alloc HBq.out _) G1, pw_cell_below (below_alloc HBq.out _) F2, pw_cell_below (below_alloc HBq.out _) G3⟩ (fun hHeld => ?_)
          clear hK K
          refine norm_ (a' := ?_) ?_ ?_
          rotate_left
          · show Act.put _ (some 90) _ = _
            simp only [Act.put, List.setIfInBounds_toArray, List.set_cons_zero, List.set_cons_succ, i64_w, i32_w]
            rfl
          refine one_ (i := 14) (N := some 91) #[true, true, true, true, true, true, true, true, true, true, true, true, true, true, true, false] rfl rfl (one_of HT_.out (by kernel_rfl)) (by decide) (fun K hK => ?_)
          refine Kd.R_append_step (Kd.int .i64) (w0 := w8) w8.heap.size (by rfl) (.tmp 77) (.tmp 90) 29 3 (.int .i64 0) 8 rfl Try.underlying29 info3 rfl (by decide) (by omega) u13 rs r2 [.int .i64 r2] (fun _ => True) (fun _ => False) rfl rfl ?aP (fun _ hk => hk.elim) ?aF ?aO ?aB ?aS ?aL ?_
          (case aP => exact rfl)
          (case aB => exact (by (with_reducible repeat (first | exact HBq.out | apply below_alloc | apply pw_below_drewN | apply below_drew1)); done))
          (case aF => exact (fun _ _ => trivial))
          (case aO => exact (by (with_reducible repeat (first | apply Kd.R_alloc | apply Kd.R_drewN | apply Kd.R_drew)); exact HO13.out))
          (case aS => exact below_size (by (with_reducible repeat (first | exact HBq.out | apply below_alloc | apply pw_below_drewN | apply below_drew1)); done))
          (case aL => have := HRs.out.1; omega)
          intro v13 wm ho hb hgr hat
          have HO12m := Aside0.mk (Kd.R_over (by (with_reducible repeat (first | apply Kd.R_alloc | apply Kd.R_drewN | apply Kd.R_drew)); exact HO12.out) (by (with_reducible repeat (first | apply Kd.R_alloc | apply Kd.R_drewN | apply Kd.R_drew)); exact HO13.out) (by decide) hgr)
          have HO13m := Aside0.mk ho
          have HBm := Aside0.mk hb
          clear ho hb hgr hat
          refine hK.out _ _ ⟨pw_cell_below HBm.out G1, pw_cell_below HBm.out F2, pw_cell_below HBm.out G3⟩ (fun hHeld => ?_)
          clear hK K
          refine norm_ (a' := ?_) ?_ ?_
          rotate_left
          · show Act.put _ (some 91) _ = _
            simp only [Act.put, List.setIfInBounds_toArray, List.set_cons_zero, List.set_cons_succ, i64_w, i32_w]
            rfl
          refine pure_ (i := 15) (N := some 13) (v := ?_) (a' := ?_) #[true, true, true, true, true, true, true, true, true, true, true, true, true, true, true, true] rfl rfl (any_of HT_.out (by kernel_rfl)) (fun _ _ _ h => h) (Or.inl ⟨by rfl, ?_⟩) ?_ ?_
          rotate_left
          · intro w'
            go_simp
            with_reducible rfl
          rotate_left
          · simp only [Act.put, List.setIfInBounds_toArray, List.set_cons_zero, List.set_cons_succ, i64_w, i32_w]
            rfl
          refine done_ (done_of HT_.out (by kernel_rfl)) ?_

          clear hHeld HT_ HW_
          go_wp2_with fail
          go_roundw
          case rel => exact ⟨q + 1, es, rs ++ [r2], by omega, by go_num, ⟨by have := HEs.out.1; omega, HEs.out.2⟩, ⟨by rw [List.length_append]; have := HRs.out.1; simp; omega, fun r hr => by rcases List.mem_append.1 hr with h | h; exact HRs.out.2 r h; rw [List.mem_singleton] at h; rw [h]; exact HRm.out⟩, HO12m, HO13m, HBm⟩
          case measure => simp [intOf]; omega
      · have hEd : decide (0 < (E.length : Int)) = true := decide_eq_true (by omega)
        have h3_ := Int.emod_nonneg z (show (E.length : Int) ≠ 0 by omega)
        have h4_ := Int.emod_lt_of_pos z (show (0 : Int) < E.length by omega)
        obtain ⟨t, ht⟩ := Int.eq_ofNat_of_zero_le h3_
        have htl : t < E.length := by omega
        have HMod : Aside0 (∀ W, Calls Try.prog 16 #[.int .i64 z, .int .i64 (E.length : Int)] W fun e w' => e = .returned (.int .i64 (t : Int)) ∧ Drawn0 W w') := ⟨fun W => fuguelaw06_mod.calls z E.length t W (by rw [mod_f _ _ (by omega) (by have := HLE.out; omega), ht])⟩
        obtain ⟨adE, eE, F3, F4, F5⟩ := at_T41 HE.out (t : Int) (by omega) (by omega)
        cases eE
        simp only [Int.toNat_natCast] at F3 F4 F5
        obtain ⟨e, he⟩ : ∃ e, e = rd_T41 E (t : Int) := ⟨_, rfl⟩
        have HEm_ : Aside0 (e ∈ E) := ⟨by rw [he, rd41_get E t htl]; exact List.getElem_mem _⟩
        rw [← he] at F3 F4 F5
        clear he h3_ h4_ ht
        have hv0 : (0 : Int) ≤ t := by omega
        have hv1 : (t : Int) < E.length := by omega
        go_wp2_with fail
        refine start_ (n := 16) (S := fun w' => w'.cell? ⟨g8, 1, none⟩ = some (.slice (some adE) E.length d1) ∧ w'.cell? (ad3.add q) = some (.int .i64 z) ∧ w'.cell? (adE.add (t * 3)) = some (.int .i64 e.f0) ∧ w'.cell? ⟨(adE.add (t * 3)).block, (adE.add (t * 3)).off + 1, none⟩ = some (.int .i64 e.f1) ∧ w'.cell? ⟨(adE.add (t * 3)).block, (adE.add (t * 3)).off + 2, none⟩ = some (.int .i64 e.f2)) (ds := []) #[false, false, false, false, false, false, false, false, false, false, false, false, false, false, false, false] (by kernel_rfl) rfl rfl ⟨pw_cell_below HBq.out F1, pw_cell_below HBq.out F2, pw_cell_below HBq.out F3, pw_cell_below HBq.out F4, pw_cell_below HBq.out F5⟩ (fun hHeld => ?_)
        refine with_tabW TAB_9.tab11 TAB_9.bits11 (fun HT_ HW_ => ?_)
        refine pure_ (i := 0) (N := some 58) (v := ?_) (a' := ?_) #[true, false, false, false, false, false, false, false, false, false, false, false, false, false, false, false] rfl rfl (any_of HT_.out (by kernel_rfl)) (fun _ _ _ h => h) (Or.inl ⟨by rfl, ?_⟩) ?_ ?_
        rotate_left
        · intro w'
          go_simp
          with_reducible rfl
        rotate_left
        · simp only [Act.put, List.setIfInBounds_toArray, List.set_cons_zero, List.set_cons_succ, i64_w, i32_w]
          rfl
        refine pure_ (i := 1) (N := some 59) (v := ?_) (a' := ?_) #[true, true, false, false, false, false, false, false, false, false, false, false, false, false, false, false] rfl rfl (any_of HT_.out (by kernel_rfl)) (fun _ _ _ h => h) (Or.inl ⟨by rfl, ?_⟩) ?_ ?_
        rotate_left
        · intro w'
          go_simp
          with_reducible rfl
        rotate_left
        · simp only [Act.put, List.setIfInBounds_toArray, List.set_cons_zero, List.set_cons_succ, i64_w, i32_w]
          rfl
        refine pure_ (i := 3) (N := some 61) (v := ?_) (a' := ?_) #[true, true, false, true, false, false, false, false, false, false, false, false, false, false, false, false] rfl rfl (any_of HT_.out (by kernel_rfl)) (fun _ _ _ h => h) (Or.inl ⟨by rfl, ?_⟩) ?_ ?_
        rotate_left
        · intro w'
          go_simp
          with_reducible rfl
        rotate_left
        · simp only [Act.put, List.setIfInBounds_toArray, List.set_cons_zero, List.set_cons_succ, i64_w, i32_w]
          rfl
        refine pure_ (i := 4) (N := some 62) (v := ?_) (a' := ?_) #[true, true, false, true, true, false, false, false, false, false, false, false, false, false, false, false] rfl rfl (any_of HT_.out (by kernel_rfl)) (fun _ _ _ h => h) (Or.inl ⟨by rfl, ?_⟩) ?_ ?_
        rotate_left
        · intro w'
          go_simp
          with_reducible rfl
        rotate_left
        · simp only [Act.put, List.setIfInBounds_toArray, List.set_cons_zero, List.set_cons_succ, i64_w, i32_w]
          rfl
        refine pure_ (i := 5) (N := some 63) (v := ?_) (a' := ?_) #[true, true, false, true, true, true, false, false, false, false, false, false, false, false, false, false] rfl rfl (any_of HT_.out (by kernel_rfl)) (fun _ _ _ h => h) (Or.inl ⟨by rfl, ?_⟩) ?_ ?_
        rotate_left
        · intro w'
          go_simp
          with_reducible rfl
        rotate_left
        · simp only [Act.put, List.setIfInBounds_toArray, List.set_cons_zero, List.set_cons_succ, i64_w, i32_w]
          rfl
        refine pure_ (i := 7) (N := some 65) (v := ?_) (a' := ?_) #[true, true, false, true, true, true, false, true, false, false, false, false, false, false, false, false] rfl rfl (any_of HT_.out (by kernel_rfl)) (fun _ _ _ h => h) (Or.inl ⟨by rfl, ?_⟩) ?_ ?_
        rotate_left
        · intro w'
          go_simp
          with_reducible rfl
        rotate_left
        · simp only [Act.put, List.setIfInBounds_toArray, List.set_cons_zero, List.set_cons_succ, i64_w, i32_w]
          rfl
        refine take_ (i := 2) (N := some 60) (v := ?_) (a' := ?_) #[true, true, true, true, true, true, false, true, false, false, false, false, false, false, false, false] rfl rfl (take_ofW HT_.out HW_.out (by kernel_rfl)) (fun _ _ _ h => h) (Or.inl ⟨by rfl, ?_⟩) hHeld ?_ ?_
        rotate_left
        · rintro w' ⟨s0, s1, s2, s3, s4⟩
          go_simp
          with_reducible rfl
        rotate_left
        · simp only [Act.put, List.setIfInBounds_toArray, List.set_cons_zero, List.set_cons_succ, i64_w, i32_w]
          rfl
        refine take_ (i := 6) (N := some 64) (v := ?_) (a' := ?_) #[true, true, true, true, true, true, true, true, false, false, false, false, false, false, false, false] rfl rfl (take_ofW HT_.out HW_.out (by kernel_rfl)) (fun _ _ _ h => h) (Or.inl ⟨by rfl, ?_⟩) hHeld ?_ ?_
        rotate_left
        · rintro w' ⟨s0, s1, s2, s3, s4⟩
          go_simp
          with_reducible rfl
        rotate_left
        · simp only [Act.put, List.setIfInBounds_toArray, List.set_cons_zero, List.set_cons_succ, i64_w, i32_w]
          rfl
        refine take_ (i := 8) (N := some 66) (v := ?_) (a' := ?_) #[true, true, true, true, true, true, true, true, true, false, false, false, false, false, false, false] rfl rfl (take_ofW HT_.out HW_.out (by kernel_rfl)) (fun _ _ _ h => h) (Or.inl ⟨by rfl, ?_⟩) hHeld ?_ ?_
        rotate_left
        · rintro w' ⟨s0, s1, s2, s3, s4⟩
          go_simp
          with_reducible rfl
        rotate_left
        · simp only [Act.put, List.setIfInBounds_toArray, List.set_cons_zero, List.set_cons_succ, i64_w, i32_w]
          rfl
        refine pure_ (i := 9) (N := some 67) (v := ?_) (a' := ?_) #[true, true, true, true, true, true, true, true, true, true, false, false, false, false, false, false] rfl rfl (any_of HT_.out (by kernel_rfl)) (fun _ _ _ h => h) (Or.inl ⟨by rfl, ?_⟩) ?_ ?_
        rotate_left
        · intro w'
          go_simp
          with_reducible rfl
        rotate_left
        · simp only [Act.put, List.setIfInBounds_toArray, List.set_cons_zero, List.set_cons_succ, i64_w, i32_w]
          rfl
        refine one_ (i := 10) (N := some 68) #[true, true, true, true, true, true, true, true, true, true, true, false, false, false, false, false] rfl rfl (one_of HT_.out (by kernel_rfl)) (by decide) (fun K hK => ?_)
        refine goes_ Try.func16 (by kernel_rfl) rfl #[.int .i64 z, .int .i64 (E.length : Int)] (by rfl) rfl rfl (by simp only [List.map_toArray, List.map_cons, List.map_nil]; rfl) ?_
        with_reducible refine (HMod.out _).mono ?_
        rintro e_ w' ⟨rfl, ⟨nd, rfl⟩⟩
        refine ⟨_, rfl, ?_⟩
        refine hK.out _ _ ⟨pw_cell_below HBq.out F1, pw_cell_below HBq.out F2, pw_cell_below HBq.out F3, pw_cell_below HBq.out F4, pw_cell_below HBq.out F5⟩ (fun hHeld => ?_)
        clear hK K
        refine norm_ (a' := ?_) ?_ ?_
        rotate_left
        · show Act.put _ (some 68) _ = _
          simp only [Act.put, List.setIfInBounds_toArray, List.set_cons_zero, List.set_cons_succ, i64_w, i32_w]
          rfl
        refine pure_ (i := 11) (N := some 69) (v := ?_) (a' := ?_) #[true, true, true, true, true, true, true, true, true, true, true, true, false, false, false, false] rfl rfl (any_of HT_.out (by kernel_rfl)) (fun _ _ _ h => h) (Or.inl ⟨by rfl, ?_⟩) ?_ ?_
        rotate_left
        · intro w'
          go_simp
          with_reducible rfl
        rotate_left
        · simp only [Act.put, List.setIfInBounds_toArray, List.set_cons_zero, List.set_cons_succ, i64_w, i32_w]
          rfl
        refine take_ (i := 12) (N := some 70) (v := ?_) (a' := ?_) #[true, true, true, true, true, true, true, true, true, true, true, true, true, false, false, false] rfl rfl (take_ofW HT_.out HW_.out (by kernel_rfl)) (fun _ _ _ h => h) (Or.inl ⟨by rfl, ?_⟩) hHeld ?_ ?_
        rotate_left
        · rintro w' ⟨s0, s1, s2, s3, s4⟩
          go_simp
          with_reducible rfl
        rotate_left
        · simp only [Act.put, List.setIfInBounds_toArray, List.set_cons_zero, List.set_cons_succ, i64_w, i32_w]
          rfl
        refine one_ (i := 13) (N := some 71) #[true, true, true, true, true, true, true, true, true, true, true, true, true, true, false, false] rfl rfl (one_of HT_.out (by kernel_rfl)) (by decide) (fun K hK => ?_)
        refine value_ (w1 := ?_) (v := ?_) (by rfl) rfl ?_ ?_
        rotate_left 2
        · go_simp
          constructor
          · rfl
          · rfl
        refine hK.out _ _ ⟨pw_cell_below (below_alloc HBq.out _) F1, pw_cell_below (below_alloc HBq.out _) F2, pw_cell_below (below_alloc HBq.out _) F3, pw_cell_below (below_alloc HBq.out _) F4, pw_cell_below (below_alloc HBq.out _) F5⟩ (fun hHeld => ?_)
        clear hK K
        refine norm_ (a' := ?_) ?_ ?_
        rotate_left
        · show Act.put _ (some 71) _ = _
          simp only [Act.put, List.setIfInBounds_toArray, List.set_cons_zero, List.set_cons_succ, i64_w, i32_w]
          rfl
        refine one_ (i := 14) (N := some 72) #[true, true, true, true, true, true, true, true, true, true, true, true, true, true, true, false] rfl rfl (one_of HT_.out (by kernel_rfl)) (by decide) (fun K hK => ?_)
        refine Kd.R_append_step k41 (w0 := w8) w8.heap.size (by rfl) (.tmp 58) (.tmp 71) 28 41 (.agg #[(.int .i64 0), (.int .i64 0), (.int .i64 0)]) 24 rfl Try.underlying28 info41 rfl (by decide) (by omega) u12 es e [.int .i64 e.f0, .int .i64 e.f1, .int .i64 e.f2] (fun _ => True) (fun _ => False) rfl rfl ?aP (fun _ hk => hk.elim) ?aF ?aO ?aB ?aS ?aL ?_
        (case aP => exact k41_mkM _ _ _ e)
        (case aB => exact (by (with_reducible repeat (first | exact HBq.out | apply below_alloc | apply pw_below_drewN | apply below_drew1)); done))
        (case aF => exact (fun _ _ => trivial))
        (case aO => exact (by (with_reducible repeat (first | apply Kd.R_alloc | apply Kd.R_drewN | apply Kd.R_drew)); exact HO12.out))
        (case aS => exact below_size (by (with_reducible repeat (first | exact HBq.out | apply below_alloc | apply pw_below_drewN | apply below_drew1)); done))
        (case aL => have := HEs.out.1; omega)
        intro v12 wn ho hb hgr hat
        have HO13n := Aside0.mk (Kd.R_over (by (with_reducible repeat (first | apply Kd.R_alloc | apply Kd.R_drewN | apply Kd.R_drew)); exact HO13.out) (by (with_reducible repeat (first | apply Kd.R_alloc | apply Kd.R_drewN | apply Kd.R_drew)); exact HO12.out) (by decide) hgr)
        have HO12n := Aside0.mk ho
        have HBn := Aside0.mk hb
        clear ho hb hgr hat
        refine hK.out _ _ ⟨pw_cell_below HBn.out F1, pw_cell_below HBn.out F2, pw_cell_below HBn.out F3, pw_cell_below HBn.out F4, pw_cell_below HBn.out F5⟩ (fun hHeld => ?_)
        clear hK K
        refine norm_ (a' := ?_) ?_ ?_
        rotate_left
        · show Act.put _ (some 72) _ = _
          simp only [Act.put, List.setIfInBounds_toArray, List.set_cons_zero, List.set_cons_succ, i64_w, i32_w]
          rfl
        refine pure_ (i := 15) (N := some 12) (v := ?_) (a' := ?_) #[true, true, true, true, true, true, true, true, true, true, true, true, true, true, true, true] rfl rfl (any_of HT_.out (by kernel_rfl)) (fun _ _ _ h => h) (Or.inl ⟨by rfl, ?_⟩) ?_ ?_
        rotate_left
        · intro w'
          go_simp
          with_reducible rfl
        rotate_left
        · simp only [Act.put, List.setIfInBounds_toArray, List.set_cons_zero, List.set_cons_succ, i64_w, i32_w]
          rfl
        refine done_ (done_of HT_.out (by kernel_rfl)) ?_

        clear hHeld HT_ HW_ hz1 hz2
        have hz2 : wn.cell? ⟨g8, 2, none⟩ = some (.slice B2 R.length d2) := pw_cell_below HBn.out G1
        by_cases hR0 : R.length = 0
        · have hRd : decide (0 < (R.length : Int)) = false := decide_eq_false (by omega)
          go_wp2_with fail
          go_roundw
          case rel => exact ⟨q + 1, (es ++ [e]), rs, by omega, by go_num, ⟨by rw [List.length_append]; have := HEs.out.1; simp; omega, fun x hx => by rcases List.mem_append.1 hx with h | h; exact HEs.out.2 x h; rw [List.mem_singleton] at h; rw [h]; exact HEm_.out⟩, ⟨by have := HRs.out.1; omega, HRs.out.2⟩, HO12n, HO13n, HBn⟩
          case measure => simp [intOf]; omega
        · have hRd : decide (0 < (R.length : Int)) = true := decide_eq_true (by omega)
          have h3_ := Int.emod_nonneg z (show (R.length : Int) ≠ 0 by omega)
          have h4_ := Int.emod_lt_of_pos z (show (0 : Int) < R.length by omega)
          obtain ⟨t2, ht2⟩ := Int.eq_ofNat_of_zero_le h3_
          have ht2l : t2 < R.length := by omega
          have HMod2 : Aside0 (∀ W, Calls Try.prog 16 #[.int .i64 z, .int .i64 (R.length : Int)] W fun e w' => e = .returned (.int .i64 (t2 : Int)) ∧ Drawn0 W w') := ⟨fun W => fuguelaw06_mod.calls z R.length t2 W (by rw [mod_f _ _ (by omega) (by have := HLE.out; omega), ht2])⟩
          obtain ⟨adR, eR, G3⟩ := Kd.at_int HR.out (t2 : Int) (by omega) (by omega)
          cases eR
          simp only [Int.toNat_natCast] at G3
          obtain ⟨r2, hr2⟩ : ∃ r2, r2 = rd R (t2 : Int) := ⟨_, rfl⟩
          have HRm : Aside0 (r2 ∈ R) := ⟨by rw [hr2, rd_get R t2 ht2l]; exact List.getElem_mem _⟩
          rw [← hr2] at G3
          clear hr2 h3_ h4_ ht2
          have hu0 : (0 : Int) ≤ t2 := by omega
          have hu1 : (t2 : Int) < R.length := by omega
          go_wp2_with fail
          refine start_ (n := 16) (S := fun w' => w'.cell? ⟨g8, 2, none⟩ = some (.slice (some adR) R.length d2) ∧ w'.cell? (ad3.add q) = some (.int .i64 z) ∧ w'.cell? (adR.add t2) = some (.int .i64 r2)) (ds := []) #[false, false, false, false, false, false, false, false, false, false, false, false, false, false, false, false] (by kernel_rfl) rfl rfl ⟨pw_cell_below HBn.out G1, pw_cell_below HBn.out F2, pw_cell_below HBn.out G3⟩ (fun hHeld => ?_)
          refine with_tabW TAB_9.tab13 TAB_9.bits13 (fun HT_ HW_ => ?_)
          refine pure_ (i := 0) (N := some 77) (v := ?_) (a' := ?_) #[true, false, false, false, false, false, false, false, false, false, false, false, false, false, false, false] rfl rfl (any_of HT_.out (by kernel_rfl)) (fun _ _ _ h => h) (Or.inl ⟨by rfl, ?_⟩) ?_ ?_
          rotate_left
          · intro w'
            go_simp
            with_reducible rfl
          rotate_left
          · simp only [Act.put, List.setIfInBounds_toArray, List.set_cons_zero, List.set_cons_succ, i64_w, i32_w]
            rfl
          refine pure_ (i := 1) (N := some 78) (v := ?_) (a' := ?_) #[true, true, false, false, false, false, false, false, false, false, false, false, false, false, false, false] rfl rfl (any_of HT_.out (by kernel_rfl)) (fun _ _ _ h => h) (Or.inl ⟨by rfl, ?_⟩) ?_ ?_
          rotate_left
          · intro w'
            go_simp
            with_reducible rfl
          rotate_left
          · simp only [Act.put, List.setIfInBounds_toArray, List.set_cons_zero, List.set_cons_succ, i64_w, i32_w]
            rfl
          refine pure_ (i := 3) (N := some 80) (v := ?_) (a' := ?_) #[true, true, false, true, false, false, false, false, false, false, false, false, false, false, false, false] rfl rfl (any_of HT_.out (by kernel_rfl)) (fun _ _ _ h => h) (Or.inl ⟨by rfl, ?_⟩) ?_ ?_
          rotate_left
          · intro w'
            go_simp
            with_reducible rfl
          rotate_left
          · simp only [Act.put, List.setIfInBounds_toArray, List.set_cons_zero, List.set_cons_succ, i64_w, i32_w]
            rfl
          refine pure_ (i := 4) (N := some 81) (v := ?_) (a' := ?_) #[true, true, false, true, true, false, false, false, false, false, false, false, false, false, false, false] rfl rfl (any_of HT_.out (by kernel_rfl)) (fun _ _ _ h => h) (Or.inl ⟨by rfl, ?_⟩) ?_ ?_
          rotate_left
          · intro w'
            go_simp
            with_reducible rfl
          rotate_left
          · simp only [Act.put, List.setIfInBounds_toArray, List.set_cons_zero, List.set_cons_succ, i64_w, i32_w]
            rfl
          refine pure_ (i := 5) (N := some 82) (v := ?_) (a' := ?_) #[true, true, false, true, true, true, false, false, false, false, false, false, false, false, false, false] rfl rfl (any_of HT_.out (by kernel_rfl)) (fun _ _ _ h => h) (Or.inl ⟨by rfl, ?_⟩) ?_ ?_
          rotate_left
          · intro w'
            go_simp
            with_reducible rfl
          rotate_left
          · simp only [Act.put, List.setIfInBounds_toArray, List.set_cons_zero, List.set_cons_succ, i64_w, i32_w]
            rfl
          refine pure_ (i := 7) (N := some 84) (v := ?_) (a' := ?_) #[true, true, false, true, true, true, false, true, false, false, false, false, false, false, false, false] rfl rfl (any_of HT_.out (by kernel_rfl)) (fun _ _ _ h => h) (Or.inl ⟨by rfl, ?_⟩) ?_ ?_
          rotate_left
          · intro w'
            go_simp
            with_reducible rfl
          rotate_left
          · simp only [Act.put, List.setIfInBounds_toArray, List.set_cons_zero, List.set_cons_succ, i64_w, i32_w]
            rfl
          refine take_ (i := 2) (N := some 79) (v := ?_) (a' := ?_) #[true, true, true, true, true, true, false, true, false, false, false, false, false, false, false, false] rfl rfl (take_ofW HT_.out HW_.out (by kernel_rfl)) (fun _ _ _ h => h) (Or.inl ⟨by rfl, ?_⟩) hHeld ?_ ?_
          rotate_left
          · rintro w' ⟨s0, s1, s2⟩
            go_simp
            with_reducible rfl
          rotate_left
          · simp only [Act.put, List.setIfInBounds_toArray, List.set_cons_zero, List.set_cons_succ, i64_w, i32_w]
            rfl
          refine take_ (i := 6) (N := some 83) (v := ?_) (a' := ?_) #[true, true, true, true, true, true, true, true, false, false, false, false, false, false, false, false] rfl rfl (take_ofW HT_.out HW_.out (by kernel_rfl)) (fun _ _ _ h => h) (Or.inl ⟨by rfl, ?_⟩) hHeld ?_ ?_
          rotate_left
          · rintro w' ⟨s0, s1, s2⟩
            go_simp
            with_reducible rfl
          rotate_left
          · simp only [Act.put, List.setIfInBounds_toArray, List.set_cons_zero, List.set_cons_succ, i64_w, i32_w]
            rfl
          refine take_ (i := 8) (N := some 85) (v := ?_) (a' := ?_) #[true, true, true, true, true, true, true, true, true, false, false, false, false, false, false, false] rfl rfl (take_ofW HT_.out HW_.out (by kernel_rfl)) (fun _ _ _ h => h) (Or.inl ⟨by rfl, ?_⟩) hHeld ?_ ?_
          rotate_left
          · rintro w' ⟨s0, s1, s2⟩
            go_simp
            with_reducible rfl
          rotate_left
          · simp only [Act.put, List.setIfInBounds_toArray, List.set_cons_zero, List.set_cons_succ, i64_w, i32_w]
            rfl
          refine pure_ (i := 9) (N := some 86) (v := ?_) (a' := ?_) #[true, true, true, true, true, true, true, true, true, true, false, false, false, false, false, false] rfl rfl (any_of HT_.out (by kernel_rfl)) (fun _ _ _ h => h) (Or.inl ⟨by rfl, ?_⟩) ?_ ?_
          rotate_left
          · intro w'
            go_simp
            with_reducible rfl
          rotate_left
          · simp only [Act.put, List.setIfInBounds_toArray, List.set_cons_zero, List.set_cons_succ, i64_w, i32_w]
            rfl
          refine one_ (i := 10) (N := some 87) #[true, true, true, true, true, true, true, true, true, true, true, false, false, false, false, false] rfl rfl (one_of HT_.out (by kernel_rfl)) (by decide) (fun K hK => ?_)
          refine goes_ Try.func16 (by kernel_rfl) rfl #[.int .i64 z, .int .i64 (R.length : Int)] (by rfl) rfl rfl (by simp only [List.map_toArray, List.map_cons, List.map_nil]; rfl) ?_
          with_reducible refine (HMod2.out _).mono ?_
          rintro e_ w' ⟨rfl, ⟨nd, rfl⟩⟩
          refine ⟨_, rfl, ?_⟩
          refine hK.out _ _ ⟨pw_cell_below HBn.out G1, pw_cell_below HBn.out F2, pw_cell_below HBn.out G3⟩ (fun hHeld => ?_)
          clear hK K
          refine norm_ (a' := ?_) ?_ ?_
          rotate_left
          · show Act.put _ (some 87) _ = _
            simp only [Act.put, List.setIfInBounds_toArray, List.set_cons_zero, List.set_cons_succ, i64_w, i32_w]
            rfl
          refine pure_ (i := 11) (N := some 88) (v := ?_) (a' := ?_) #[true, true, true, true, true, true, true, true, true, true, true, true, false, false, false, false] rfl rfl (any_of HT_.out (by kernel_rfl)) (fun _ _ _ h => h) (Or.inl ⟨by rfl, ?_⟩) ?_ ?_
          rotate_left
          · intro w'
            go_simp
            with_reducible rfl
          rotate_left
          · simp only [Act.put, List.setIfInBounds_toArray, List.set_cons_zero, List.set_cons_succ, i64_w, i32_w]
            rfl
          refine take_ (i := 12) (N := some 89) (v := ?_) (a' := ?_) #[true, true, true, true, true, true, true, true, true, true, true, true, true, false, false, false] rfl rfl (take_ofW HT_.out HW_.out (by kernel_rfl)) (fun _ _ _ h => h) (Or.inl ⟨by rfl, ?_⟩) hHeld ?_ ?_
          rotate_left
          · rintro w' ⟨s0, s1, s2⟩
            go_simp
            with_reducible rfl
          rotate_left
          · simp only [Act.put, List.setIfInBounds_toArray, List.set_cons_zero, List.set_cons_succ, i64_w, i32_w]
            rfl
          refine one_ (i := 13) (N := some 90) #[true, true, true, true, true, true, true, true, true, true, true, true, true, true, false, false] rfl rfl (one_of HT_.out (by kernel_rfl)) (by decide) (fun K hK => ?_)
          refine value_ (w1 := ?_) (v := ?_) (by rfl) rfl ?_ ?_
          rotate_left 2
          · go_simp
            constructor
            · rfl
            · rfl
          refine hK.out _ _ ⟨pw_cell_below (below_alloc HBn.out _) G1, pw_cell_below (below_alloc HBn.out _) F2, pw_cell_below (below_alloc HBn.out _) G3⟩ (fun hHeld => ?_)
          clear hK K
          refine norm_ (a' := ?_) ?_ ?_
          rotate_left
          · show Act.put _ (some 90) _ = _
            simp only [Act.put, List.setIfInBounds_toArray, List.set_cons_zero, List.set_cons_succ, i64_w, i32_w]
            rfl
          refine one_ (i := 14) (N := some 91) #[true, true, true, true, true, true, true, true, true, true, true, true, true, true, true, false] rfl rfl (one_of HT_.out (by kernel_rfl)) (by decide) (fun K hK => ?_)
          refine Kd.R_append_step (Kd.int .i64) (w0 := w8) w8.heap.size (by rfl) (.tmp 77) (.tmp 90) 29 3 (.int .i64 0) 8 rfl Try.underlying29 info3 rfl (by decide) (by omega) u13 rs r2 [.int .i64 r2] (fun _ => True) (fun _ => False) rfl rfl ?aP (fun _ hk => hk.elim) ?aF ?aO ?aB ?aS ?aL ?_
          (case aP => exact rfl)
          (case aB => exact (by (with_reducible repeat (first | exact HBn.out | apply below_alloc | apply pw_below_drewN | apply below_drew1)); done))
          (case aF => exact (fun _ _ => trivial))
          (case aO => exact (by (with_reducible repeat (first | apply Kd.R_alloc | apply Kd.R_drewN | apply Kd.R_drew)); exact HO13n.out))
          (case aS => exact below_size (by (with_reducible repeat (first | exact HBn.out | apply below_alloc | apply pw_below_drewN | apply below_drew1)); done))
          (case aL => have := HRs.out.1; omega)
          intro v13 wm ho hb hgr hat
          have HO12m := Aside0.mk (Kd.R_over (by (with_reducible repeat (first | apply Kd.R_alloc | apply Kd.R_drewN | apply Kd.R_drew)); exact HO12n.out) (by (with_reducible repeat (first | apply Kd.R_alloc | apply Kd.R_drewN | apply Kd.R_drew)); exact HO13n.out) (by decide) hgr)
          have HO13m := Aside0.mk ho
          have HBm := Aside0.mk hb
          clear ho hb hgr hat
          refine hK.out _ _ ⟨pw_cell_below HBm.out G1, pw_cell_below HBm.out F2, pw_cell_below HBm.out G3⟩ (fun hHeld => ?_)
          clear hK K
          refine norm_ (a' := ?_) ?_ ?_
          rotate_left
          · show Act.put _ (some 91) _ = _
            simp only [Act.put, List.setIfInBounds_toArray, List.set_cons_zero, List.set_cons_succ, i64_w, i32_w]
            rfl
          refine pure_ (i := 15) (N := some 13) (v := ?_) (a' := ?_) #[true, true, true, true, true, true, true, true, true, true, true, true, true, true, true, true] rfl rfl (any_of HT_.out (by kernel_rfl)) (fun _ _ _ h => h) (Or.inl ⟨by rfl, ?_⟩) ?_ ?_
          rotate_left
          · intro w'
            go_simp
            with_reducible rfl
          rotate_left
          · simp only [Act.put, List.setIfInBounds_toArray, List.set_cons_zero, List.set_cons_succ, i64_w, i32_w]
            rfl
          refine done_ (done_of HT_.out (by kernel_rfl)) ?_

          clear hHeld HT_ HW_
          go_wp2_with fail
          go_roundw
          case rel => exact ⟨q + 1, (es ++ [e]), rs ++ [r2], by omega, by go_num, ⟨by rw [List.length_append]; have := HEs.out.1; simp; omega, fun x hx => by rcases List.mem_append.1 hx with h | h; exact HEs.out.2 x h; rw [List.mem_singleton] at h; rw [h]; exact HEm_.out⟩, ⟨by rw [List.length_append]; have := HRs.out.1; simp; omega, fun r hr => by rcases List.mem_append.1 hr with h | h; exact HRs.out.2 r h; rw [List.mem_singleton] at h; rw [h]; exact HRm.out⟩, HO12m, HO13m, HBm⟩
          case measure => simp [intOf]; omega
    · obtain rfl : q = l3.length := by omega
      have HEl := Aside0.mk HLE.out
      clear hlt hq
      have hwE : wrap64 ((E.length : Int) - 1) = (E.length : Int) - 1 := wrap_in (by omega) (by have := HLE.out; omega)
      go_wp2_with fail
      clear hz1 hz2 hwE
      go_loopw [12, 15] (fun v12 v15 w' => ∃ (p : Nat) (es : List S41), p ≤ E.length ∧ v15 = .int .i64 ((p : Int) - 1) ∧ Aside0 (es.length + p ≤ l3.length + E.length ∧ (∀ e ∈ es, e ∈ E) ∧ ∀ (j : Nat) (h : j < E.length), p ≤ j → E[j] ∈ es) ∧ Aside0 (Kd.R k41 41 w' w8.heap.size (fun _ => True) v12 es) ∧ Aside0 (Kd.R (Kd.int .i64) 3 w' w8.heap.size (fun _ => True) u13 rs) ∧ Aside0 (Below w8.heap.size w8 w')) (fun _ i _ => (intOf i + 1).toNat)
      case atStart => exact ⟨E.length, es, Nat.le_refl _, congrArg (Value.int .i64) (wrap_in (by omega) (by have := HLE.out; omega)), ⟨by have := HEs.out.1; omega, HEs.out.2, fun j h hp => by omega⟩, HO12, HO13, HBq⟩
      case round =>
        clear HEs HO12 HO13 HBq
        obtain ⟨p, es, hp, rfl, HEs, HO12, HO13, HBq⟩ := hrel
        have hz1 : wr.cell? ⟨g8, 1, none⟩ = some (.slice B1 E.length d1) := pw_cell_below HBq.out ((blk_cell BK8.out 1).trans rfl)
        have hz2 : wr.cell? ⟨g8, 2, none⟩ = some (.slice B2 R.length d2) := pw_cell_below HBq.out ((blk_cell BK8.out 2).trans rfl)
        by_cases hp0 : 0 < p
        · obtain ⟨p, rfl⟩ : ∃ p', p = p' + 1 := ⟨p - 1, by omega⟩
          have hpp : ((p + 1 : Nat) : Int) - 1 = (p : Int) := by omega
          rw [hpp]
          have h0 : (0 : Int) ≤ p := by omega
          have h1 : (p : Int) < E.length := by omega
          have hwp : wrap64 ((p : Int) - 1) = (p : Int) - 1 := wrap_in (by omega) (by have := HLE.out; omega)
          obtain ⟨adE, eE, F3, F4, F5⟩ := at_T41 HE.out (p : Int) (by omega) (by omega)
          cases eE
          simp only [Int.toNat_natCast] at F3 F4 F5
          obtain ⟨e, he⟩ : ∃ e, e = rd_T41 E (p : Int) := ⟨_, rfl⟩
          have HEm_ : Aside0 (e = E[p]'(by omega)) := ⟨by rw [he, rd41_get E p (by omega)]⟩
          rw [← he] at F3 F4 F5
          clear he
          replace F3 := pw_cell_below HBq.out F3
          replace F4 := pw_cell_below HBq.out F4
          replace F5 := pw_cell_below HBq.out F5
          go_wp2_with (first | ((with_reducible refine gate_builtin (b := .append) (xs := #[.tmp 100, .tmp 106]) rfl ?_); at_builtin; refine Kd.R_append k41 (w0 := w8) w8.heap.size rfl (.tmp 100) (.tmp 106) 28 41 (.agg #[(.int .i64 0), (.int .i64 0), (.int .i64 0)]) 24 rfl Try.underlying28 info41 rfl (by decide) (by omega) u12 es e [.int .i64 e.f0, .int .i64 e.f1, .int .i64 e.f2] (fun _ => True) (fun _ => False) rfl rfl ?aP (fun _ hk => hk.elim) ?aF ?aO ?aB ?aS ?aL ?_; (case aP => exact k41_mkM _ _ _ e); (case aB => exact HBq.out); (case aF => exact (fun _ _ => trivial)); (case aO => exact HO12.out); (case aS => exact below_size HBq.out); (case aL => have := HEs.out.1; have := HEl.out; omega); intro vn wn ho hb hgr hat; have HO13n := Aside0.mk (Kd.R_over HO13.out HO12.out (by decide) hgr); have HO12n := Aside0.mk ho; have HBn := Aside0.mk hb; clear ho hb hgr hat))
          go_roundw
          case rel => exact ⟨p, es ++ [e], by omega, congrArg (Value.int .i64) (wrap_in (by omega) (by have := HLE.out; omega)), ⟨by have := HEs.out.1; rw [List.length_append]; simp; omega, fun x hx => by rcases List.mem_append.1 hx with h | h; exact HEs.out.2.1 x h; rw [List.mem_singleton] at h; rw [h, HEm_.out]; exact List.getElem_mem _, fun j h hj => by
            by_cases hjp : j = p
            · subst hjp; rw [← HEm_.out]; simp
            · exact List.mem_append.2 (.inl (HEs.out.2.2 j h (by omega)))⟩, HO12n, HO13n, HBn⟩
          case measure => first | (rw [hwp]; simp [intOf]; done) | (rw [hwp]; simp [intOf]; omega)
        · obtain rfl : p = 0 := by omega
          clear hp0 hp
          rw [show ((0 : Nat) : Int) - 1 = -1 from rfl]
          have hwR : wrap64 ((R.length : Int) - 1) = (R.length : Int) - 1 := wrap_in (by omega) (by have := HLE.out; omega)
          go_wp2_with fail
          clear hz1
          have HES : Aside0 (es.length ≤ l3.length + E.length ∧ ∀ e, e ∈ es ↔ e ∈ E) := ⟨by have := HEs.out.1; omega, fun e => ⟨HEs.out.2.1 e, fun h => by
            obtain ⟨j, hj, rfl⟩ := List.getElem_of_mem h
            exact HEs.out.2.2 j hj (by omega)⟩⟩
          clear HEs
          go_loopw [13, 16] (fun v13 v16 w' => ∃ (p : Nat) (rs : List Int), p ≤ R.length ∧ v16 = .int .i64 ((p : Int) - 1) ∧ Aside0 (rs.length + p ≤ l3.length + R.length ∧ (∀ r ∈ rs, r ∈ R) ∧ ∀ (j : Nat) (h : j < R.length), p ≤ j → R[j] ∈ rs) ∧ Aside0 (Kd.R k41 41 w' w8.heap.size (fun _ => True) u12 es) ∧ Aside0 (Kd.R (Kd.int .i64) 3 w' w8.heap.size (fun _ => True) v13 rs) ∧ Aside0 (Below w8.heap.size w8 w')) (fun _ i _ => (intOf i + 1).toNat)
          case atStart => exact ⟨R.length, rs, Nat.le_refl _, congrArg (Value.int .i64) (wrap_in (by omega) (by have := HLE.out; omega)), ⟨by have := HRs.out.1; omega, HRs.out.2, fun j h hp => by omega⟩, HO12, HO13, HBq⟩
          case round =>
            clear HRs HO12 HO13 HBq hz2 hwR
            obtain ⟨p, rs, hp, rfl, HRs, HO12, HO13, HBq⟩ := hrel
            have hz0 : wr.cell? ⟨g8, 0, none⟩ = some (.int .i64 (bx.length : Int)) := pw_cell_below HBq.out ((blk_cell BK8.out 0).trans rfl)
            have hz2 : wr.cell? ⟨g8, 2, none⟩ = some (.slice B2 R.length d2) := pw_cell_below HBq.out ((blk_cell BK8.out 2).trans rfl)
            by_cases hp0 : 0 < p
            · obtain ⟨p, rfl⟩ : ∃ p', p = p' + 1 := ⟨p - 1, by omega⟩
              have hpp : ((p + 1 : Nat) : Int) - 1 = (p : Int) := by omega
              rw [hpp]
              have h0 : (0 : Int) ≤ p := by omega
              have h1 : (p : Int) < R.length := by omega
              have hwp : wrap64 ((p : Int) - 1) = (p : Int) - 1 := wrap_in (by omega) (by have := HLE.out; omega)
              obtain ⟨adR, eR, G3⟩ := Kd.at_int HR.out (p : Int) (by omega) (by omega)
              cases eR
              simp only [Int.toNat_natCast] at G3
              obtain ⟨r2, hr2⟩ : ∃ r2, r2 = rd R (p : Int) := ⟨_, rfl⟩
              have HRm : Aside0 (r2 = R[p]'(by omega)) := ⟨by rw [hr2, rd_get R p (by omega)]⟩
              rw [← hr2] at G3
              clear hr2
              replace G3 := pw_cell_below HBq.out G3
              go_wp2_with (first | ((with_reducible refine gate_builtin (b := .append) (xs := #[.tmp 116, .tmp 122]) rfl ?_); at_builtin; refine Kd.R_append (Kd.int .i64) (w0 := w8) w8.heap.size rfl (.tmp 116) (.tmp 122) 29 3 (.int .i64 0) 8 rfl Try.underlying29 info3 rfl (by decide) (by omega) u13 rs r2 [.int .i64 r2] (fun _ => True) (fun _ => False) rfl rfl ?aP (fun _ hk => hk.elim) ?aF ?aO ?aB ?aS ?aL ?_; (case aP => exact rfl); (case aB => exact HBq.out); (case aF => exact (fun _ _ => trivial)); (case aO => exact HO13.out); (case aS => exact below_size HBq.out); (case aL => have := HRs.out.1; have := HEl.out; omega); intro vn wn ho hb hgr hat; have HO12n := Aside0.mk (Kd.R_over HO12.out HO13.out (by decide) hgr); have HO13n := Aside0.mk ho; have HBn := Aside0.mk hb; clear ho hb hgr hat))
              go_roundw
              case rel => exact ⟨p, rs ++ [r2], by omega, congrArg (Value.int .i64) (wrap_in (by omega) (by have := HLE.out; omega)), ⟨by have := HRs.out.1; rw [List.length_append]; simp; omega, fun x hx => by rcases List.mem_append.1 hx with h | h; exact HRs.out.2.1 x h; rw [List.mem_singleton] at h; rw [h, HRm.out]; exact List.getElem_mem _, fun j h hj => by
                by_cases hjp : j = p
                · subst hjp; rw [← HRm.out]; simp
                · exact List.mem_append.2 (.inl (HRs.out.2.2 j h (by omega)))⟩, HO12n, HO13n, HBn⟩
              case measure => first | (rw [hwp]; simp [intOf]; done) | (rw [hwp]; simp [intOf]; omega)
            · obtain rfl : p = 0 := by omega
              clear hp0 hp
              rw [show ((0 : Nat) : Int) - 1 = -1 from rfl]
              have HRS : Aside0 (rs.length ≤ l3.length + R.length ∧ ∀ r, r ∈ rs ↔ r ∈ R) := ⟨by have := HRs.out.1; omega, fun r => ⟨HRs.out.2.1 r, fun h => by
                obtain ⟨j, hj, rfl⟩ := List.getElem_of_mem h
                exact HRs.out.2.2 j hj (by omega)⟩⟩
              clear HRs
              have HFy := Aside0.mk (orders_same (by omega) HG.out HS.out (by have := HES.out.1; have := HEl.out; omega) HES.out.2 HRS.out.2)
              obtain ⟨A12, e12, rfl, k12, C12⟩ := Kd.R_reads HO12.out
              obtain ⟨A13, e13, rfl, k13, C13⟩ := Kd.R_reads HO13.out
              have HC12 := Aside0.mk C12
              have HC13 := Aside0.mk C13
              have Hk12 := Aside0.mk k12
              have Hk13 := Aside0.mk k13
              clear C12 C13 k12 k13
              go_wp2_with fail
              refine (from_C HFy.out HC12.out Hk12.out HC13.out Hk13.out).mono ?_
              rintro e_ w9 ⟨B7, d7, rfl, hy, hb⟩
              have HBy := Aside0.mk (HBq.out.trans (hb.mono HBq.out.size))
              have Hyq := Aside0.mk (Kd.R_reads' hy).2.1
              have Hyc := Aside0.mk (Kd.R_reads' hy).2.2
              have HO12y := Aside0.mk (Kd.R_below HO12.out hb)
              have HO13y := Aside0.mk (Kd.R_below HO13.out hb)
              clear hy hb hz0 hz2 HC12 HC13 HO12 HO13 HBq
              have hz0 : w9.cell? ⟨g8, 0, none⟩ = some (.int .i64 (bx.length : Int)) := pw_cell_below HBy.out ((blk_cell BK8.out 0).trans rfl)
              go_wp2_with fail
              refine (eqints_any (by omega) (Kd.C_below Hx.out HBy.out) Hqx.out Hyc.out Hyq.out rfl).mono ?_
              rintro e_ w' ⟨rfl, ⟨nd, rfl⟩⟩
              have hz01 : (w9.drewN nd).cell? ⟨g8, 0, none⟩ = some (.int .i64 (bx.length : Int)) := hz0
              have hy1 : (w9.drewN nd).cell? ⟨g9, 1, none⟩ = some (.slice B4 mE.length d4) := pw_cell_below HBy.out ((blk_cell BK9_.out 1).trans rfl)
              go_wp2_with fail
              clear hz0 hz01 hy1
              go_loopw [12, 20] (fun v12 v20 w' => ∃ (p : Nat) (es : List S41), p ≤ mE.length ∧ v20 = .int .i64 (p : Int) ∧ Aside0 (es.length ≤ l3.length + E.length + p ∧ (∀ e ∈ es, e ∈ E ∨ e ∈ mE) ∧ (∀ e ∈ E, e ∈ es) ∧ ∀ (j : Nat) (h : j < mE.length), j < p → mE[j] ∈ es) ∧ Aside0 (Kd.R k41 41 w' w8.heap.size (fun _ => True) v12 es) ∧ Aside0 (Kd.R (Kd.int .i64) 3 w' w8.heap.size (fun _ => True) (.slice A13 rs.length e13) rs) ∧ Aside0 (Below w8.heap.size w8 w')) (fun _ i _ => mE.length - (intOf i).toNat)
              case atStart => exact ⟨0, es, Nat.zero_le _, rfl, ⟨by have := HES.out.1; omega, fun e h => .inl ((HES.out.2 e).1 h), fun e h => (HES.out.2 e).2 h, fun j h hp => by omega⟩, ⟨Kd.R_drewN HO12y.out _⟩, ⟨Kd.R_drewN HO13y.out _⟩, ⟨pw_below_drewN HBy.out _⟩⟩
              case round =>
                clear HES HO12y HO13y HBy Hyc Hyq HFy
                obtain ⟨p, es, hp, rfl, HES, HO12, HO13, HBq⟩ := hrel
                have hy1 : wr.cell? ⟨g9, 1, none⟩ = some (.slice B4 mE.length d4) := pw_cell_below HBq.out ((blk_cell BK9_.out 1).trans rfl)
                have hy2 : wr.cell? ⟨g9, 2, none⟩ = some (.slice B5 mR.length d5) := pw_cell_below HBq.out ((blk_cell BK9_.out 2).trans rfl)
                have hz0 : wr.cell? ⟨g8, 0, none⟩ = some (.int .i64 (bx.length : Int)) := pw_cell_below HBq.out ((blk_cell BK8.out 0).trans rfl)
                by_cases hlt : p < mE.length
                · have h0 : (0 : Int) ≤ p := by omega
                  have h1 : (p : Int) < mE.length := by omega
                  have hwp : wrap64 ((p : Int) + 1) = (p : Int) + 1 := wrap_in (by omega) (by have := HLE.out; omega)
                  obtain ⟨adE, eE, F3, F4, F5⟩ := at_T41 HmE_.out (p : Int) (by omega) (by omega)
                  cases eE
                  simp only [Int.toNat_natCast] at F3 F4 F5
                  obtain ⟨e, he⟩ : ∃ e, e = rd_T41 mE (p : Int) := ⟨_, rfl⟩
                  have HEm_ : Aside0 (e = mE[p]'(by omega)) := ⟨by rw [he, rd41_get mE p (by omega)]⟩
                  rw [← he] at F3 F4 F5
                  clear he
                  replace F3 := pw_cell_below HBq.out F3
                  replace F4 := pw_cell_below HBq.out F4
                  replace F5 := pw_cell_below HBq.out F5
                  go_wp2_with (first | ((with_reducible refine gate_builtin (b := .append) (xs := #[.tmp 164, .tmp 170]) rfl ?_); at_builtin; refine Kd.R_append k41 (w0 := w8) w8.heap.size rfl (.tmp 164) (.tmp 170) 28 41 (.agg #[(.int .i64 0), (.int .i64 0), (.int .i64 0)]) 24 rfl Try.underlying28 info41 rfl (by decide) (by omega) u12 es e [.int .i64 e.f0, .int .i64 e.f1, .int .i64 e.f2] (fun _ => True) (fun _ => False) rfl rfl ?aP (fun _ hk => hk.elim) ?aF ?aO ?aB ?aS ?aL ?_; (case aP => exact k41_mkM _ _ _ e); (case aB => exact HBq.out); (case aF => exact (fun _ _ => trivial)); (case aO => exact HO12.out); (case aS => exact below_size HBq.out); (case aL => have := HES.out.1; have := HEl.out; omega); intro vn wn ho hb hgr hat; have HO13n := Aside0.mk (Kd.R_over HO13.out HO12.out (by decide) hgr); have HO12n := Aside0.mk ho; have HBn := Aside0.mk hb; clear ho hb hgr hat))
                  go_roundw
                  case rel => exact ⟨p + 1, es ++ [e], by omega, congrArg (Value.int .i64) (hwp.trans (by omega)), ⟨by have := HES.out.1; rw [List.length_append]; simp; omega, fun x hx => by rcases List.mem_append.1 hx with h | h; exact HES.out.2.1 x h; rw [List.mem_singleton] at h; rw [h, HEm_.out]; exact .inr (List.getElem_mem _), fun x hx => List.mem_append.2 (.inl (HES.out.2.2.1 x hx)), fun j h hj => by
                    by_cases hjp : j = p
                    · subst hjp; rw [← HEm_.out]; simp
                    · exact List.mem_append.2 (.inl (HES.out.2.2.2 j h (by omega)))⟩, HO12n, HO13n, HBn⟩
                  case measure => rw [hwp]; simp [intOf]; omega
                · obtain rfl : p = mE.length := by omega
                  clear hlt hp
                  obtain ⟨bz, hfz, hzl, hzle⟩ := orders_more (es := es) (rs := rs) (by have := HS.out.len; omega) HG.out HGm.out HS.out (by have := HES.out.1; have := HEl.out; omega) (fun e => ⟨HES.out.2.1 e, fun h => by
                    rcases h with h | h
                    · exact HES.out.2.2.1 e h
                    · obtain ⟨j, hj, rfl⟩ := List.getElem_of_mem h
                      exact HES.out.2.2.2 j hj hj⟩) HRS.out.2
                  have HFz := Aside0.mk hfz
                  have HZle := Aside0.mk hzle
                  clear hfz hzle HES
                  obtain ⟨A12', e12', rfl, k12, C12⟩ := Kd.R_reads HO12.out
                  obtain ⟨_, k13, C13⟩ := Kd.R_reads' HO13.out
                  have HC12 := Aside0.mk C12
                  have HC13 := Aside0.mk C13
                  have Hk12' := Aside0.mk k12
                  have Hk13' := Aside0.mk k13
                  clear C12 C13 k12 k13
                  go_wp2_with fail
                  refine (from_C HFz.out HC12.out Hk12'.out HC13.out Hk13'.out).mono ?_
                  rintro e_ w10 ⟨B8, d8, rfl, hzr, hb⟩
                  have HBz := Aside0.mk (HBq.out.trans (hb.mono HBq.out.size))
                  obtain ⟨S1, hS1⟩ : ∃ s, s = wr.heap.size := ⟨_, rfl⟩
                  have HO13z : Aside0 (Kd.R (Kd.int .i64) 3 w10 w8.heap.size (fun k => k < S1) (.slice A13 rs.length e13) rs) := ⟨Kd.R_below (Kd.R_mono (Kd.R_bound HO13.out) (fun k hk => by rw [hS1]; exact hk.2.2.1)) hb⟩
                  rw [← hS1] at hzr
                  have HZr := Aside0.mk hzr
                  have HSS : Aside0 (S1 ≤ w10.heap.size) := ⟨by rw [hS1]; exact hb.size⟩
                  clear hzr hb hy1 hy2 hz0 HC12 HC13 HO12 HO13 HBq hS1
                  have hz0 : w10.cell? ⟨g8, 0, none⟩ = some (.int .i64 (bx.length : Int)) := pw_cell_below HBz.out ((blk_cell BK8.out 0).trans rfl)
                  have hz1 : w10.cell? ⟨g8, 1, none⟩ = some (.slice B1 E.length d1) := pw_cell_below HBz.out ((blk_cell BK8.out 1).trans rfl)
                  have hy2 : w10.cell? ⟨g9, 2, none⟩ = some (.slice B5 mR.length d5) := pw_cell_below HBz.out ((blk_cell BK9_.out 2).trans rfl)
                  go_wp2_with fail
                  refine (from_C HFw.out (Kd.C_below HE.out HBz.out) HqE.out (Kd.C_below HmR_.out HBz.out) HqmR.out).mono ?_
                  rintro e_ w12 ⟨B9, d9, rfl, hwr, hb⟩
                  have HBw := Aside0.mk (HBz.out.trans (hb.mono HBz.out.size))
                  obtain ⟨S2, hS2⟩ : ∃ s, s = w12.heap.size := ⟨_, rfl⟩
                  have HO13w : Aside0 (Kd.R (Kd.int .i64) 3 w12 w8.heap.size (fun k => k < S1 ∨ S2 ≤ k) (.slice A13 rs.length e13) rs) := ⟨Kd.R_mono (Kd.R_below HO13z.out hb) (fun k hk => .inl hk)⟩
                  have HZw := Aside0.mk (Kd.R_below HZr.out hb)
                  have HWw := Aside0.mk (Kd.R_lower hwr HSS.out)
                  have HS2 := Aside0.mk hS2
                  have HSz0 : Aside0 (S2 ≤ w12.heap.size) := ⟨by omega⟩
                  clear hwr hb hz0 hz1 hy2 HO13z HZr HBz HSS hS2
                  have hy2 : w12.cell? ⟨g9, 2, none⟩ = some (.slice B5 mR.length d5) := pw_cell_below HBw.out ((blk_cell BK9_.out 2).trans rfl)
                  go_wp2_with fail
                  clear hy2
                  go_loopw [13, 23] (fun v13 v23 w' => ∃ (p : Nat) (rs : List Int), p ≤ mR.length ∧ v23 = .int .i64 (p : Int) ∧ Aside0 (rs.length ≤ l3.length + R.length + p ∧ (∀ r ∈ rs, r ∈ R ∨ r ∈ mR) ∧ (∀ r ∈ R, r ∈ rs) ∧ ∀ (j : Nat) (h : j < mR.length), j < p → mR[j] ∈ rs) ∧ Aside0 (Kd.R (Kd.int .i64) 3 w' w8.heap.size (fun k => k < S1 ∨ S2 ≤ k) v13 rs) ∧ Aside0 (∀ k, S1 ≤ k → k < S2 → w'.heap[k]? = w12.heap[k]?) ∧ Aside0 (S2 ≤ w'.heap.size) ∧ Aside0 (Below w8.heap.size w8 w')) (fun _ i _ => mR.length - (intOf i).toNat)
                  case atStart => exact ⟨0, rs, Nat.zero_le _, rfl, ⟨by have := HRS.out.1; omega, fun r h => .inl ((HRS.out.2 r).1 h), fun r h => (HRS.out.2 r).2 h, fun j h hp => by omega⟩, HO13w, ⟨fun _ _ _ => rfl⟩, HSz0, HBw⟩
                  case round =>
                    clear HRS HO13w HSz0 HBw
                    obtain ⟨p, rs, hp, rfl, HRS, HO13, HK, HSz, HBq⟩ := hrel
                    have hy2 : wr.cell? ⟨g9, 2, none⟩ = some (.slice B5 mR.length d5) := pw_cell_below HBq.out ((blk_cell BK9_.out 2).trans rfl)
                    have hz0 : wr.cell? ⟨g8, 0, none⟩ = some (.int .i64 (bx.length : Int)) := pw_cell_below HBq.out ((blk_cell BK8.out 0).trans rfl)
                    have hz1 : wr.cell? ⟨g8, 1, none⟩ = some (.slice B1 E.length d1) := pw_cell_below HBq.out ((blk_cell BK8.out 1).trans rfl)
                    by_cases hlt : p < mR.length
                    · have h0 : (0 : Int) ≤ p := by omega
                      have h1 : (p : Int) < mR.length := by omega
                      have hwp : wrap64 ((p : Int) + 1) = (p : Int) + 1 := wrap_in (by omega) (by have := HLE.out; omega)
                      obtain ⟨adR, eR, G3⟩ := Kd.at_int HmR_.out (p : Int) (by omega) (by omega)
                      cases eR
                      simp only [Int.toNat_natCast] at G3
                      obtain ⟨r2, hr2⟩ : ∃ r2, r2 = rd mR (p : Int) := ⟨_, rfl⟩
                      have HRm : Aside0 (r2 = mR[p]'(by omega)) := ⟨by rw [hr2, rd_get mR p (by omega)]⟩
                      rw [← hr2] at G3
                      clear hr2
                      replace G3 := pw_cell_below HBq.out G3
                      go_wp2_with (first | ((with_reducible refine gate_builtin (b := .append) (xs := #[.tmp 197, .tmp 203]) rfl ?_); at_builtin; refine Kd.R_append (Kd.int .i64) (w0 := w8) w8.heap.size rfl (.tmp 197) (.tmp 203) 29 3 (.int .i64 0) 8 rfl Try.underlying29 info3 rfl (by decide) (by omega) u13 rs r2 [.int .i64 r2] (fun k => k < S1 ∨ S2 ≤ k) (fun _ => False) rfl rfl ?aP (fun _ hk => hk.elim) ?aF ?aO ?aB ?aS ?aL ?_; (case aP => exact rfl); (case aB => exact HBq.out); (case aF => exact (fun k hk => .inr (by have := HSz.out; omega))); (case aO => exact HO13.out); (case aS => exact below_size HBq.out); (case aL => have := HRS.out.1; have := HEl.out; omega); intro vn wn ho hb hgr hat; have HKn : Aside0 (∀ k, S1 ≤ k → k < S2 → wn.heap[k]? = w12.heap[k]?) := ⟨fun k h1 h2 => (hgr.block k (by have := HSz.out; omega) (fun he => by have := HO13.out.1 k he.symm; omega)).trans (HK.out k h1 h2)⟩; have HSn : Aside0 (S2 ≤ wn.heap.size) := ⟨by have h1 := hgr.size; have h2 := HSz.out; omega⟩; have HO13n := Aside0.mk ho; have HBn := Aside0.mk hb; clear ho hb hgr hat))
                      go_roundw
                      case rel => exact ⟨p + 1, rs ++ [r2], by omega, congrArg (Value.int .i64) (hwp.trans (by omega)), ⟨by have := HRS.out.1; rw [List.length_append]; simp; omega, fun x hx => by rcases List.mem_append.1 hx with h | h; exact HRS.out.2.1 x h; rw [List.mem_singleton] at h; rw [h, HRm.out]; exact .inr (List.getElem_mem _), fun x hx => List.mem_append.2 (.inl (HRS.out.2.2.1 x hx)), fun j h hj => by
                        by_cases hjp : j = p
                        · subst hjp; rw [← HRm.out]; simp
                        · exact List.mem_append.2 (.inl (HRS.out.2.2.2 j h (by omega)))⟩, HO13n, HKn, HSn, HBn⟩
                      case measure => rw [hwp]; simp [intOf]; omega
                    · obtain rfl : p = mR.length := by omega
                      clear hlt hp
                      obtain ⟨bu, hfu, hul, hum⟩ := orders_roots (rs := rs) (by have := HS.out.len; omega) HG.out HGm.out HS.out HSw.out (by have := HEl.out; omega) (fun r => ⟨HRS.out.2.1 r, fun h => by
                        rcases h with h | h
                        · exact HRS.out.2.2.1 r h
                        · obtain ⟨j, hj, rfl⟩ := List.getElem_of_mem h
                          exact HRS.out.2.2.2 j hj hj⟩)
                      have HFu := Aside0.mk hfu
                      have HUm := Aside0.mk hum
                      clear hfu hum HRS
                      have HZ := Aside0.mk (Kd.R_move (Kd.R_bound HZw.out) (fun k hk => HK.out k hk.2.1 (by rw [HS2.out]; exact hk.2.2.1)))
                      have HW := Aside0.mk (Kd.R_move (Kd.R_bound HWw.out) (fun k hk => HK.out k hk.2.1 (by rw [HS2.out]; exact hk.2.2.1)))
                      obtain ⟨A13', e13', rfl, k13, C13⟩ := Kd.R_reads HO13.out
                      have HC13 := Aside0.mk C13
                      have Hk13' := Aside0.mk k13
                      clear C13 k13 HZw HWw HK HO13
                      go_wp2_with fail
                      refine (from_C HFu.out (Kd.C_below HE.out HBq.out) HqE.out HC13.out Hk13'.out).mono ?_
                      rintro e_ w13 ⟨BU, dU, rfl, hur, hb⟩
                      have HBu := Aside0.mk (HBq.out.trans (hb.mono HBq.out.size))
                      have HUc := Aside0.mk (Kd.R_reads' hur).2.2
                      have HZc := Aside0.mk (Kd.R_reads' (Kd.R_below HZ.out hb)).2.2
                      have HWc := Aside0.mk (Kd.R_reads' (Kd.R_below HW.out hb)).2.2
                      have HXc := Aside0.mk (Kd.C_below Hx.out HBu.out)
                      have hwl : bw.length = bx.length := HSw.out.len
                      clear hur hb hy2 hz0 hz1 HC13 HZ HW HBq HSz
                      go_wp2_with fail
                      go_loopw [26] (fun v26 w' => ∃ q : Nat, q ≤ bx.length ∧ v26 = .int .i64 (q : Int) ∧ Aside0 (Below w13.heap.size w13 w')) (fun i _ => bx.length - (intOf i).toNat)
                      case atStart => exact ⟨0, Nat.zero_le _, rfl, ⟨Below.refl _ _⟩⟩
                      case round =>
                        obtain ⟨q, hq, rfl, HBq⟩ := hrel
                        by_cases hlt : q < bx.length
                        · have h0 : (0 : Int) ≤ q := by omega
                          have h1 : (q : Int) < bx.length := by omega
                          obtain ⟨adZ, eZ, K1⟩ := Kd.at_int HZc.out (q : Int) h0 (by omega)
                          cases eZ
                          obtain ⟨adX, eX, K2⟩ := Kd.at_int HXc.out (q : Int) h0 (by omega)
                          cases eX
                          obtain ⟨adU, eU, K3⟩ := Kd.at_int HUc.out (q : Int) h0 (by omega)
                          cases eU
                          obtain ⟨adW, eW, K4⟩ := Kd.at_int HWc.out (q : Int) h0 (by omega)
                          cases eW
                          simp only [Int.toNat_natCast] at K1 K2 K3 K4
                          have hle := HZle.out (q : Int) h0 (by omega)
                          have hme := HUm.out (q : Int) h0 (by omega)
                          obtain ⟨zq, hzq⟩ : ∃ z, z = rd bz (q : Int) := ⟨_, rfl⟩
                          obtain ⟨xq, hxq⟩ : ∃ z, z = rd bx (q : Int) := ⟨_, rfl⟩
                          obtain ⟨wq, hwq⟩ : ∃ z, z = rd bw (q : Int) := ⟨_, rfl⟩
                          obtain ⟨uq, huq⟩ : ∃ z, z = meet xq wq := ⟨_, rfl⟩
                          rw [← hxq, ← hwq, ← huq] at hme
                          rw [← hzq, ← hxq] at hle
                          rw [← hzq] at K1
                          rw [← hxq] at K2
                          rw [hme] at K3
                          rw [← hwq] at K4
                          have HMt : Aside0 (∀ W, Calls Try.prog 22 #[.int .i64 xq, .int .i64 wq] W fun e w' => e = .returned (.int .i64 uq) ∧ W = w') := ⟨fun W => by rw [huq]; exact meet_any _ _ W⟩
                          replace K1 := pw_cell_below HBq.out K1
                          replace K2 := pw_cell_below HBq.out K2
                          replace K3 := pw_cell_below HBq.out K3
                          replace K4 := pw_cell_below HBq.out K4
                          have hgt : decide (xq < zq) = false := decide_eq_false (by omega)
                          have hwp : wrap64 ((q : Int) + 1) = (q : Int) + 1 := wrap_in (by omega) (by have := HLE.out; omega)
                          clear hzq hxq hwq huq hme hle
                          go_wp2_with fail
                          refine start_ (n := 25) (S := fun w' => w'.cell? (adZ.add q) = some (.int .i64 zq) ∧ w'.cell? (adX.add q) = some (.int .i64 xq) ∧ w'.cell? (adU.add q) = some (.int .i64 uq) ∧ w'.cell? (adW.add q) = some (.int .i64 wq)) (ds := []) #[false, false, false, false, false, false, false, false, false, false, false, false, false, false, false, false, false, false, false, false, false, false, false, false, false] (by kernel_rfl) rfl rfl ⟨K1, K2, K3, K4⟩ (fun hHeld => ?_)
                          refine with_tabW TAB_9.tab42 TAB_9.bits42 (fun HT_ HW_ => ?_)
                          refine pure_ (i := 0) (N := some 253) (v := ?_) (a' := ?_) #[true, false, false, false, false, false, false, false, false, false, false, false, false, false, false, false, false, false, false, false, false, false, false, false, false] rfl rfl (any_of HT_.out (by kernel_rfl)) (fun _ _ _ h => h) (Or.inl ⟨by rfl, ?_⟩) ?_ ?_
                          rotate_left
                          · intro w'
                            go_simp
                            with_reducible rfl
                          rotate_left
                          · simp only [Act.put, List.setIfInBounds_toArray, List.set_cons_zero, List.set_cons_succ, i64_w, i32_w]
                            rfl
                          refine pure_ (i := 1) (N := some 254) (v := ?_) (a' := ?_) #[true, true, false, false, false, false, false, false, false, false, false, false, false, false, false, false, false, false, false, false, false, false, false, false, false] rfl rfl (any_of HT_.out (by kernel_rfl)) (fun _ _ _ h => h) (Or.inl ⟨by rfl, ?_⟩) ?_ ?_
                          rotate_left
                          · intro w'
                            go_simp
                            with_reducible rfl
                          rotate_left
                          · simp only [Act.put, List.setIfInBounds_toArray, List.set_cons_zero, List.set_cons_succ, i64_w, i32_w]
                            rfl
                          refine pure_ (i := 2) (N := some 255) (v := ?_) (a' := ?_) #[true, true, true, false, false, false, false, false, false, false, false, false, false, false, false, false, false, false, false, false, false, false, false, false, false] rfl rfl (any_of HT_.out (by kernel_rfl)) (fun _ _ _ h => h) (Or.inl ⟨by rfl, ?_⟩) ?_ ?_
                          rotate_left
                          · intro w'
                            go_simp
                            with_reducible rfl
                          rotate_left
                          · simp only [Act.put, List.setIfInBounds_toArray, List.set_cons_zero, List.set_cons_succ, i64_w, i32_w]
                            rfl
                          refine pure_ (i := 4) (N := some 257) (v := ?_) (a' := ?_) #[true, true, true, false, true, false, false, false, false, false, false, false, false, false, false, false, false, false, false, false, false, false, false, false, false] rfl rfl (any_of HT_.out (by kernel_rfl)) (fun _ _ _ h => h) (Or.inl ⟨by rfl, ?_⟩) ?_ ?_
                          rotate_left
                          · intro w'
                            go_simp
                            with_reducible rfl
                          rotate_left
                          · simp only [Act.put, List.setIfInBounds_toArray, List.set_cons_zero, List.set_cons_succ, i64_w, i32_w]
                            rfl
                          refine pure_ (i := 5) (N := some 258) (v := ?_) (a' := ?_) #[true, true, true, false, true, true, false, false, false, false, false, false, false, false, false, false, false, false, false, false, false, false, false, false, false] rfl rfl (any_of HT_.out (by kernel_rfl)) (fun _ _ _ h => h) (Or.inl ⟨by rfl, ?_⟩) ?_ ?_
                          rotate_left
                          · intro w'
                            go_simp
                            with_reducible rfl
                          rotate_left
                          · simp only [Act.put, List.setIfInBounds_toArray, List.set_cons_zero, List.set_cons_succ, i64_w, i32_w]
                            rfl
                          refine pure_ (i := 6) (N := some 259) (v := ?_) (a' := ?_) #[true, true, true, false, true, true, true, false, false, false, false, false, false, false, false, false, false, false, false, false, false, false, false, false, false] rfl rfl (any_of HT_.out (by kernel_rfl)) (fun _ _ _ h => h) (Or.inl ⟨by rfl, ?_⟩) ?_ ?_
                          rotate_left
                          · intro w'
                            go_simp
                            with_reducible rfl
                          rotate_left
                          · simp only [Act.put, List.setIfInBounds_toArray, List.set_cons_zero, List.set_cons_succ, i64_w, i32_w]
                            rfl
                          refine take_ (i := 3) (N := some 256) (v := ?_) (a' := ?_) #[true, true, true, true, true, true, true, false, false, false, false, false, false, false, false, false, false, false, false, false, false, false, false, false, false] rfl rfl (take_ofW HT_.out HW_.out (by kernel_rfl)) (fun _ _ _ h => h) (Or.inl ⟨by rfl, ?_⟩) hHeld ?_ ?_
                          rotate_left
                          · rintro w' ⟨s0, s1, s2, s3⟩
                            go_simp
                            with_reducible rfl
                          rotate_left
                          · simp only [Act.put, List.setIfInBounds_toArray, List.set_cons_zero, List.set_cons_succ, i64_w, i32_w]
                            rfl
                          refine take_ (i := 7) (N := some 260) (v := ?_) (a' := ?_) #[true, true, true, true, true, true, true, true, false, false, false, false, false, false, false, false, false, false, false, false, false, false, false, false, false] rfl rfl (take_ofW HT_.out HW_.out (by kernel_rfl)) (fun _ _ _ h => h) (Or.inl ⟨by rfl, ?_⟩) hHeld ?_ ?_
                          rotate_left
                          · rintro w' ⟨s0, s1, s2, s3⟩
                            go_simp
                            with_reducible rfl
                          rotate_left
                          · simp only [Act.put, List.setIfInBounds_toArray, List.set_cons_zero, List.set_cons_succ, i64_w, i32_w]
                            rfl
                          refine pure_ (i := 8) (N := some 261) (v := ?_) (a' := ?_) #[true, true, true, true, true, true, true, true, true, false, false, false, false, false, false, false, false, false, false, false, false, false, false, false, false] rfl rfl (any_of HT_.out (by kernel_rfl)) (fun _ _ _ h => h) (Or.inl ⟨by rfl, ?_⟩) ?_ ?_
                          rotate_left
                          · intro w'
                            go_simp
                            with_reducible rfl
                          rotate_left
                          · simp only [Act.put, List.setIfInBounds_toArray, List.set_cons_zero, List.set_cons_succ, i64_w, i32_w]
                            rfl
                          refine pure_ (i := 9) (N := some 262) (v := ?_) (a' := ?_) #[true, true, true, true, true, true, true, true, true, true, false, false, false, false, false, false, false, false, false, false, false, false, false, false, false] rfl rfl (any_of HT_.out (by kernel_rfl)) (fun _ _ _ h => h) (Or.inl ⟨by rfl, ?_⟩) ?_ ?_
                          rotate_left
                          · intro w'
                            go_simp
                            with_reducible rfl
                          rotate_left
                          · simp only [Act.put, List.setIfInBounds_toArray, List.set_cons_zero, List.set_cons_succ, i64_w, i32_w]
                            rfl
                          refine pure_ (i := 10) (N := some 263) (v := ?_) (a' := ?_) #[true, true, true, true, true, true, true, true, true, true, true, false, false, false, false, false, false, false, false, false, false, false, false, false, false] rfl rfl (any_of HT_.out (by kernel_rfl)) (fun _ _ _ h => h) (Or.inl ⟨by rfl, ?_⟩) ?_ ?_
                          rotate_left
                          · intro w'
                            go_simp
                            with_reducible rfl
                          rotate_left
                          · simp only [Act.put, List.setIfInBounds_toArray, List.set_cons_zero, List.set_cons_succ, i64_w, i32_w]
                            rfl
                          refine pure_ (i := 11) (N := some 264) (v := ?_) (a' := ?_) #[true, true, true, true, true, true, true, true, true, true, true, true, false, false, false, false, false, false, false, false, false, false, false, false, false] rfl rfl (any_of HT_.out (by kernel_rfl)) (fun _ _ _ h => h) (Or.inl ⟨by rfl, ?_⟩) ?_ ?_
                          rotate_left
                          · intro w'
                            go_simp
                            with_reducible rfl
                          rotate_left
                          · simp only [Act.put, List.setIfInBounds_toArray, List.set_cons_zero, List.set_cons_succ, i64_w, i32_w]
                            rfl
                          refine pure_ (i := 12) (N := some 265) (v := ?_) (a' := ?_) #[true, true, true, true, true, true, true, true, true, true, true, true, true, false, false, false, false, false, false, false, false, false, false, false, false] rfl rfl (any_of HT_.out (by kernel_rfl)) (fun _ _ _ h => h) (Or.inl ⟨by rfl, ?_⟩) ?_ ?_
                          rotate_left
                          · intro w'
                            go_simp
                            with_reducible rfl
                          rotate_left
                          · simp only [Act.put, List.setIfInBounds_toArray, List.set_cons_zero, List.set_cons_succ, i64_w, i32_w]
                            rfl
                          refine pure_ (i := 14) (N := some 267) (v := ?_) (a' := ?_) #[true, true, true, true, true, true, true, true, true, true, true, true, true, false, true, false, false, false, false, false, false, false, false, false, false] rfl rfl (any_of HT_.out (by kernel_rfl)) (fun _ _ _ h => h) (Or.inl ⟨by rfl, ?_⟩) ?_ ?_
                          rotate_left
                          · intro w'
                            go_simp
                            with_reducible rfl
                          rotate_left
                          · simp only [Act.put, List.setIfInBounds_toArray, List.set_cons_zero, List.set_cons_succ, i64_w, i32_w]
                            rfl
                          refine pure_ (i := 15) (N := some 268) (v := ?_) (a' := ?_) #[true, true, true, true, true, true, true, true, true, true, true, true, true, false, true, true, false, false, false, false, false, false, false, false, false] rfl rfl (any_of HT_.out (by kernel_rfl)) (fun _ _ _ h => h) (Or.inl ⟨by rfl, ?_⟩) ?_ ?_
                          rotate_left
                          · intro w'
                            go_simp
                            with_reducible rfl
                          rotate_left
                          · simp only [Act.put, List.setIfInBounds_toArray, List.set_cons_zero, List.set_cons_succ, i64_w, i32_w]
                            rfl
                          refine pure_ (i := 16) (N := some 269) (v := ?_) (a' := ?_) #[true, true, true, true, true, true, true, true, true, true, true, true, true, false, true, true, true, false, false, false, false, false, false, false, false] rfl rfl (any_of HT_.out (by kernel_rfl)) (fun _ _ _ h => h) (Or.inl ⟨by rfl, ?_⟩) ?_ ?_
                          rotate_left
                          · intro w'
                            go_simp
                            with_reducible rfl
                          rotate_left
                          · simp only [Act.put, List.setIfInBounds_toArray, List.set_cons_zero, List.set_cons_succ, i64_w, i32_w]
                            rfl
                          refine pure_ (i := 18) (N := some 271) (v := ?_) (a' := ?_) #[true, true, true, true, true, true, true, true, true, true, true, true, true, false, true, true, true, false, true, false, false, false, false, false, false] rfl rfl (any_of HT_.out (by kernel_rfl)) (fun _ _ _ h => h) (Or.inl ⟨by rfl, ?_⟩) ?_ ?_
                          rotate_left
                          · intro w'
                            go_simp
                            with_reducible rfl
                          rotate_left
                          · simp only [Act.put, List.setIfInBounds_toArray, List.set_cons_zero, List.set_cons_succ, i64_w, i32_w]
                            rfl
                          refine pure_ (i := 19) (N := some 272) (v := ?_) (a' := ?_) #[true, true, true, true, true, true, true, true, true, true, true, true, true, false, true, true, true, false, true, true, false, false, false, false, false] rfl rfl (any_of HT_.out (by kernel_rfl)) (fun _ _ _ h => h) (Or.inl ⟨by rfl, ?_⟩) ?_ ?_
                          rotate_left
                          · intro w'
                            go_simp
                            with_reducible rfl
                          rotate_left
                          · simp only [Act.put, List.setIfInBounds_toArray, List.set_cons_zero, List.set_cons_succ, i64_w, i32_w]
                            rfl
                          refine pure_ (i := 20) (N := some 273) (v := ?_) (a' := ?_) #[true, true, true, true, true, true, true, true, true, true, true, true, true, false, true, true, true, false, true, true, true, false, false, false, false] rfl rfl (any_of HT_.out (by kernel_rfl)) (fun _ _ _ h => h) (Or.inl ⟨by rfl, ?_⟩) ?_ ?_
                          rotate_left
                          · intro w'
                            go_simp
                            with_reducible rfl
                          rotate_left
                          · simp only [Act.put, List.setIfInBounds_toArray, List.set_cons_zero, List.set_cons_succ, i64_w, i32_w]
                            rfl
                          refine take_ (i := 13) (N := some 266) (v := ?_) (a' := ?_) #[true, true, true, true, true, true, true, true, true, true, true, true, true, true, true, true, true, false, true, true, true, false, false, false, false] rfl rfl (take_ofW HT_.out HW_.out (by kernel_rfl)) (fun _ _ _ h => h) (Or.inl ⟨by rfl, ?_⟩) hHeld ?_ ?_
                          rotate_left
                          · rintro w' ⟨s0, s1, s2, s3⟩
                            go_simp
                            with_reducible rfl
                          rotate_left
                          · simp only [Act.put, List.setIfInBounds_toArray, List.set_cons_zero, List.set_cons_succ, i64_w, i32_w]
                            rfl
                          refine take_ (i := 17) (N := some 270) (v := ?_) (a' := ?_) #[true, true, true, true, true, true, true, true, true, true, true, true, true, true, true, true, true, true, true, true, true, false, false, false, false] rfl rfl (take_ofW HT_.out HW_.out (by kernel_rfl)) (fun _ _ _ h => h) (Or.inl ⟨by rfl, ?_⟩) hHeld ?_ ?_
                          rotate_left
                          · rintro w' ⟨s0, s1, s2, s3⟩
                            go_simp
                            with_reducible rfl
                          rotate_left
                          · simp only [Act.put, List.setIfInBounds_toArray, List.set_cons_zero, List.set_cons_succ, i64_w, i32_w]
                            rfl
                          refine take_ (i := 21) (N := some 274) (v := ?_) (a' := ?_) #[true, true, true, true, true, true, true, true, true, true, true, true, true, true, true, true, true, true, true, true, true, true, false, false, false] rfl rfl (take_ofW HT_.out HW_.out (by kernel_rfl)) (fun _ _ _ h => h) (Or.inl ⟨by rfl, ?_⟩) hHeld ?_ ?_
                          rotate_left
                          · rintro w' ⟨s0, s1, s2, s3⟩
                            go_simp
                            with_reducible rfl
                          rotate_left
                          · simp only [Act.put, List.setIfInBounds_toArray, List.set_cons_zero, List.set_cons_succ, i64_w, i32_w]
                            rfl
                          refine one_ (i := 22) (N := some 275) #[true, true, true, true, true, true, true, true, true, true, true, true, true, true, true, true, true, true, true, true, true, true, true, false, false] rfl rfl (one_of HT_.out (by kernel_rfl)) (by decide) (fun K hK => ?_)
                          refine goes_ Try.func22 (by kernel_rfl) rfl #[.int .i64 xq, .int .i64 wq] (by rfl) rfl rfl (by simp only [List.map_toArray, List.map_cons, List.map_nil]; rfl) ?_
                          with_reducible refine (HMt.out _).mono ?_
                          rintro e_ w' ⟨rfl, rfl⟩
                          refine ⟨_, rfl, ?_⟩
                          refine hK.out _ _ ⟨K1, K2, K3, K4⟩ (fun hHeld => ?_)
                          clear hK K
                          refine norm_ (a' := ?_) ?_ ?_
                          rotate_left
                          · show Act.put _ (some 275) _ = _
                            simp only [Act.put, List.setIfInBounds_toArray, List.set_cons_zero, List.set_cons_succ, i64_w, i32_w]
                            rfl
                          refine pure_ (i := 23) (N := some 276) (v := ?_) (a' := ?_) #[true, true, true, true, true, true, true, true, true, true, true, true, true, true, true, true, true, true, true, true, true, true, true, true, false] rfl rfl (any_of HT_.out (by kernel_rfl)) (fun _ _ _ h => h) (Or.inl ⟨by rfl, ?_⟩) ?_ ?_
                          rotate_left
                          · intro w'
                            go_simp
                            with_reducible rfl
                          rotate_left
                          · simp only [Act.put, List.setIfInBounds_toArray, List.set_cons_zero, List.set_cons_succ, i64_w, i32_w]
                            rfl
                          refine pure_ (i := 24) (N := some 277) (v := ?_) (a' := ?_) #[true, true, true, true, true, true, true, true, true, true, true, true, true, true, true, true, true, true, true, true, true, true, true, true, true] rfl rfl (any_of HT_.out (by kernel_rfl)) (fun _ _ _ h => h) (Or.inl ⟨by rfl, ?_⟩) ?_ ?_
                          rotate_left
                          · intro w'
                            go_simp
                            with_reducible rfl
                          rotate_left
                          · simp only [Act.put, List.setIfInBounds_toArray, List.set_cons_zero, List.set_cons_succ, i64_w, i32_w]
                            rfl
                          refine done_ (done_of HT_.out (by kernel_rfl)) ?_

                          clear hHeld HT_ HW_
                          go_wp2_with fail
                          go_roundw
                          case rel => exact ⟨q + 1, Nat.succ_le_of_lt hlt, congrArg (Value.int .i64) (hwp.trans (int_next q)), ⟨HBq.out.drew⟩⟩
                          case measure => exact meas_next hwp hlt
                        · obtain rfl : q = bx.length := by omega
                          go_wp2
                          go_ret
                          exact ⟨rfl, HB.out.trans ((HBu.out.trans (HBq.out.mono HBu.out.size)).mono HB.out.size)⟩
end Go.Proofs.Ytmjdiiockddalaa.PW
