/- What a proof of this seat needs, laid together by a program of the session's. No conditions. -/
import Derived.Test.YteonppgdmhakoaaDoorC1
import Derived.StillTailTactics
import Derived.Defers
import Derived.Recover
namespace Go.Proofs.YteonppgdmhakoaaDoor.PC
open Go.RowKit Go.Proofs.YteonppgdmhakoaaDoorW.PrintWords Go.Proofs.YteonppgdmhakoaaDoorW.PrintLast Go.Proofs.YteonppgdmhakoaaDoorW.PrintMore
set_option linter.unusedVariables false
set_option linter.unusedSimpArgs false
inductive PK where
 | R | S | T | int | fields | field | glob | func | jump | args | rets | vals
def PartIs (w : World) : PK → List Value → Prop
 | .R => VarIs w 1 69
 | .S => VarIs w 2 70
 | .T => VarIs w 4 71
 | .int => IntIs w
 | .fields => NumIs w 1 17 75
 | .field => NumIs w 0 17 76
 | .glob => NumIs w 0 18 77
 | .func => NumIs w 0 14 78
 | .jump => NumIs w 0 16 79
 | .args => ListIs w 16 81 82
 | .rets => ListIs w 32 83 84
 | .vals => ListIs w 16 81 85
theorem PartIs.below {w w' : World} (hb : Below w.heap.size w w') : ∀ {k : PK} {cs : List Value}, PartIs w k cs → PartIs w' k cs
 | .R, _, h => VarIs.below h hb
 | .S, _, h => VarIs.below h hb
 | .T, _, h => VarIs.below h hb
 | .int, _, h => IntIs.below h hb
 | .fields, _, h => NumIs.below h hb
 | .field, _, h => NumIs.below h hb
 | .glob, _, h => NumIs.below h hb
 | .func, _, h => NumIs.below h hb
 | .jump, _, h => NumIs.below h hb
 | .args, _, h => ListIs.below h hb
 | .rets, _, h => ListIs.below h hb
 | .vals, _, h => ListIs.below h hb
def partsOf (op : Nat) : List PK := [[], [.R, .int], [.R, .S], [.R, .S, .T], [.R, .S, .T], [.R, .S], [.R, .fields], [.R, .S, .field], [.R, .S, .field], [.R, .glob], [.S, .glob], [.func, .args, .rets], [.S], [.jump], [.S, .jump], [.vals], [.R], [.R, .S, .T]].getD op []
def RowIs (w : World) (b : Nat) (ks : List PK) : Prop := ∀ (j : Nat) (k : PK), ks[j]? = some k → ∃ c0 c1 c2 c3, PartIs w k [c0, c1, c2, c3] ∧ w.cell? ⟨b, j * 4, none⟩ = some c0 ∧ w.cell? ⟨b, j * 4 + 1, none⟩ = some c1 ∧ w.cell? ⟨b, j * 4 + 2, none⟩ = some c2 ∧ w.cell? ⟨b, j * 4 + 3, none⟩ = some c3
def OpsAt (w : World) (B : Nat) : Prop := ∀ op : Nat, 1 ≤ op → op ≤ 17 → ∃ b, w.cell? ⟨B, op, none⟩ = some (.slice (some ⟨b, 0, none⟩) (partsOf op).length (partsOf op).length) ∧ RowIs w b (partsOf op)
theorem RowIs.below {w w' : World} {b : Nat} {ks : List PK} (h : RowIs w b ks) (hb : Below w.heap.size w w') : RowIs w' b ks := fun j k hj => by
 obtain ⟨c0, c1, c2, c3, hp, h0, h1, h2, h3⟩ := h j k hj
 exact ⟨c0, c1, c2, c3, hp.below hb, pw_cell_below hb h0, pw_cell_below hb h1, pw_cell_below hb h2, pw_cell_below hb h3⟩
theorem OpsAt.below {w w' : World} {B : Nat} (h : OpsAt w B) (hb : Below w.heap.size w w') : OpsAt w' B := fun op h1 h2 => by
 obtain ⟨b, hc, hr⟩ := h op h1 h2
 exact ⟨b, pw_cell_below hb hc, hr.below hb⟩
section
variable {w : World} {b : Nat} {k0 k1 k2 : PK} {a0 a1 a2 a3 b0 b1 b2 b3 c0 c1 c2 c3 : Value}
theorem row1 (h : w.heap[b]? = some (.cells #[a0, a1, a2, a3] 69 (0, 0))) (p0 : PartIs w k0 [a0, a1, a2, a3]) : RowIs w b [k0] := fun j k hj => by
 rcases j with _ | j
 ·obtain rfl : k0 = k := by simpa using hj
  exact ⟨_, _, _, _, p0, (blk_cell h 0).trans rfl, (blk_cell h 1).trans rfl, (blk_cell h 2).trans rfl, (blk_cell h 3).trans rfl⟩
 ·simp at hj
theorem row2 (h : w.heap[b]? = some (.cells #[a0, a1, a2, a3, b0, b1, b2, b3] 69 (0, 0))) (p0 : PartIs w k0 [a0, a1, a2, a3]) (p1 : PartIs w k1 [b0, b1, b2, b3]) : RowIs w b [k0, k1] := fun j k hj => by
 rcases j with _ | _ | j
 ·obtain rfl : k0 = k := by simpa using hj
  exact ⟨_, _, _, _, p0, (blk_cell h 0).trans rfl, (blk_cell h 1).trans rfl, (blk_cell h 2).trans rfl, (blk_cell h 3).trans rfl⟩
 ·obtain rfl : k1 = k := by simpa using hj
  exact ⟨_, _, _, _, p1, (blk_cell h 4).trans rfl, (blk_cell h 5).trans rfl, (blk_cell h 6).trans rfl, (blk_cell h 7).trans rfl⟩
 ·simp at hj
theorem row3 (h : w.heap[b]? = some (.cells #[a0, a1, a2, a3, b0, b1, b2, b3, c0, c1, c2, c3] 69 (0, 0))) (p0 : PartIs w k0 [a0, a1, a2, a3]) (p1 : PartIs w k1 [b0, b1, b2, b3]) (p2 : PartIs w k2 [c0, c1, c2, c3]) : RowIs w b [k0, k1, k2] := fun j k hj => by
 rcases j with _ | _ | _ | j
 ·obtain rfl : k0 = k := by simpa using hj
  exact ⟨_, _, _, _, p0, (blk_cell h 0).trans rfl, (blk_cell h 1).trans rfl, (blk_cell h 2).trans rfl, (blk_cell h 3).trans rfl⟩
 ·obtain rfl : k1 = k := by simpa using hj
  exact ⟨_, _, _, _, p1, (blk_cell h 4).trans rfl, (blk_cell h 5).trans rfl, (blk_cell h 6).trans rfl, (blk_cell h 7).trans rfl⟩
 ·obtain rfl : k2 = k := by simpa using hj
  exact ⟨_, _, _, _, p2, (blk_cell h 8).trans rfl, (blk_cell h 9).trans rfl, (blk_cell h 10).trans rfl, (blk_cell h 11).trans rfl⟩
 ·simp at hj
end
set_option maxHeartbeats 8000000 in
set_option maxRecDepth 100000 in
theorem ops_any (w : World) : Calls Tryd.prog 38 #[] w fun e w' => ∃ B, e = .returned (.slice (some ⟨B, 0, none⟩) 18 18) ∧ OpsAt w' B ∧ w.heap.size ≤ B ∧ Below w.heap.size w w' := by
 have HB := Aside0.mk (Below.refl w.heap.size w)
 go_enter Tryd.func38, Tryd.ntmps38
 go_wp2_with (first | (go_at_call 68; (with_reducible refine (variable_any 1 69 _).mono ?_); rintro e w1 ⟨p1, q1, rfl, hV, hb⟩; have HB_ := Aside0.mk (HB.out.trans (hb.mono HB.out.size)); clear HB; have HB := HB_; clear HB_; have V1 : Aside0 (PartIs w1 .R [.int .i64 1, .func (Fn.func 97) #[] #[.pointer (some ⟨p1, 0, none⟩)], .func (Fn.func 98) #[] #[.pointer (some ⟨p1, 0, none⟩)], .func (Fn.func 99) #[] #[.pointer (some ⟨p1, 0, none⟩), .pointer (some ⟨q1, 0, none⟩)]]) := ⟨hV⟩; clear hV hb) | (go_at_call 68; (with_reducible refine (variable_any 2 70 _).mono ?_); rintro e w2 ⟨p2, q2, rfl, hV, hb⟩; have hb1 := below_step (below_alloc (Below.refl w1.heap.size w1) _) hb; have BK1 := Aside0.mk (blk_below (blk_at (w := w1) (.cells #[.int .i64 1, .func (Fn.func 97) #[] #[.pointer (some ⟨p1, 0, none⟩)], .func (Fn.func 98) #[] #[.pointer (some ⟨p1, 0, none⟩)], .func (Fn.func 99) #[] #[.pointer (some ⟨p1, 0, none⟩), .pointer (some ⟨q1, 0, none⟩)]] 69)) hb); have HB_ := Aside0.mk (HB.out.trans (hb1.mono HB.out.size)); have V1_ := Aside0.mk (V1.out.below hb1); clear HB V1; have HB := HB_; have V1 := V1_; clear HB_ V1_; have V2 : Aside0 (PartIs w2 .S [.int .i64 2, .func (Fn.func 97) #[] #[.pointer (some ⟨p2, 0, none⟩)], .func (Fn.func 98) #[] #[.pointer (some ⟨p2, 0, none⟩)], .func (Fn.func 99) #[] #[.pointer (some ⟨p2, 0, none⟩), .pointer (some ⟨q2, 0, none⟩)]]) := ⟨hV⟩; clear hV hb; clear hb1) | (go_at_call 68; (with_reducible refine (variable_any 4 71 _).mono ?_); rintro e w3 ⟨p3, q3, rfl, hV, hb⟩; have hb1 := below_step (below_alloc (Below.refl w2.heap.size w2) _) hb; have BK2 := Aside0.mk (blk_below (blk_at (w := w2) (.cells #[.int .i64 2, .func (Fn.func 97) #[] #[.pointer (some ⟨p2, 0, none⟩)], .func (Fn.func 98) #[] #[.pointer (some ⟨p2, 0, none⟩)], .func (Fn.func 99) #[] #[.pointer (some ⟨p2, 0, none⟩), .pointer (some ⟨q2, 0, none⟩)]] 69)) hb); have HB_ := Aside0.mk (HB.out.trans (hb1.mono HB.out.size)); have V1_ := Aside0.mk (V1.out.below hb1); have BK1_ := Aside0.mk (blk_below BK1.out hb1); have V2_ := Aside0.mk (V2.out.below hb1); clear HB V1 BK1 V2; have HB := HB_; have V1 := V1_; have BK1 := BK1_; have V2 := V2_; clear HB_ V1_ BK1_ V2_; have V3 : Aside0 (PartIs w3 .T [.int .i64 4, .func (Fn.func 97) #[] #[.pointer (some ⟨p3, 0, none⟩)], .func (Fn.func 98) #[] #[.pointer (some ⟨p3, 0, none⟩)], .func (Fn.func 99) #[] #[.pointer (some ⟨p3, 0, none⟩), .pointer (some ⟨q3, 0, none⟩)]]) := ⟨hV⟩; clear hV hb; clear hb1) | (go_at_call 72; (with_reducible refine (number_any 73 #[] _).mono ?_); rintro e w4 ⟨p4, rfl, hV, hb⟩; have hV : IntIs w4 [.int .i64 8, .func (Fn.func 73) #[] #[], .func (Fn.func 100) #[] #[], .func (Fn.func 101) #[] #[.pointer (some ⟨p4, 0, none⟩)]] := ⟨p4, rfl, hV⟩; have hb1 := below_step (below_alloc (Below.refl w3.heap.size w3) _) hb; have BK3 := Aside0.mk (blk_below (blk_at (w := w3) (.cells #[.int .i64 4, .func (Fn.func 97) #[] #[.pointer (some ⟨p3, 0, none⟩)], .func (Fn.func 98) #[] #[.pointer (some ⟨p3, 0, none⟩)], .func (Fn.func 99) #[] #[.pointer (some ⟨p3, 0, none⟩), .pointer (some ⟨q3, 0, none⟩)]] 69)) hb); have HB_ := Aside0.mk (HB.out.trans (hb1.mono HB.out.size)); have V1_ := Aside0.mk (V1.out.below hb1); have BK1_ := Aside0.mk (blk_below BK1.out hb1); have V2_ := Aside0.mk (V2.out.below hb1); have BK2_ := Aside0.mk (blk_below BK2.out hb1); have V3_ := Aside0.mk (V3.out.below hb1); clear HB V1 BK1 V2 BK2 V3; have HB := HB_; have V1 := V1_; have BK1 := BK1_; have V2 := V2_; have BK2 := BK2_; have V3 := V3_; clear HB_ V1_ BK1_ V2_ BK2_ V3_; have V4 : Aside0 (PartIs w4 .int [.int .i64 8, .func (Fn.func 73) #[] #[], .func (Fn.func 100) #[] #[], .func (Fn.func 101) #[] #[.pointer (some ⟨p4, 0, none⟩)]]) := ⟨hV⟩; clear hV hb; clear hb1) | (go_at_call 74; (with_reducible refine (below_any 1 17 75 _).mono ?_); rintro e w5 ⟨p5, q5, r5, s5, rfl, hV, hb⟩; have hb1 := below_step (below_alloc (Below.refl w4.heap.size w4) _) hb; have BK4 := Aside0.mk (blk_below (blk_at (w := w4) (.cells #[.int .i64 8, .func (Fn.func 73) #[] #[], .func (Fn.func 100) #[] #[], .func (Fn.func 101) #[] #[.pointer (some ⟨p4, 0, none⟩)]] 69)) hb); have HB_ := Aside0.mk (HB.out.trans (hb1.mono HB.out.size)); have V1_ := Aside0.mk (V1.out.below hb1); have BK1_ := Aside0.mk (blk_below BK1.out hb1); have V2_ := Aside0.mk (V2.out.below hb1); have BK2_ := Aside0.mk (blk_below BK2.out hb1); have V3_ := Aside0.mk (V3.out.below hb1); have BK3_ := Aside0.mk (blk_below BK3.out hb1); have V4_ := Aside0.mk (V4.out.below hb1); clear HB V1 BK1 V2 BK2 V3 BK3 V4; have HB := HB_; have V1 := V1_; have BK1 := BK1_; have V2 := V2_; have BK2 := BK2_; have V3 := V3_; have BK3 := BK3_; have V4 := V4_; clear HB_ V1_ BK1_ V2_ BK2_ V3_ BK3_ V4_; have V5 : Aside0 (PartIs w5 .fields [.int .i64 8, .func (Fn.func 102) #[] #[.pointer (some ⟨q5, 0, none⟩), .pointer (some ⟨s5, 0, none⟩), .pointer (some ⟨r5, 0, none⟩)], .func (Fn.func 100) #[] #[], .func (Fn.func 101) #[] #[.pointer (some ⟨p5, 0, none⟩)]]) := ⟨hV⟩; clear hV hb; clear hb1) | (go_at_call 74; (with_reducible refine (below_any 0 17 76 _).mono ?_); rintro e w6 ⟨p6, q6, r6, s6, rfl, hV, hb⟩; have hb1 := below_step (below_alloc (Below.refl w5.heap.size w5) _) hb; have BK5 := Aside0.mk (blk_below (blk_at (w := w5) (.cells #[.int .i64 8, .func (Fn.func 102) #[] #[.pointer (some ⟨q5, 0, none⟩), .pointer (some ⟨s5, 0, none⟩), .pointer (some ⟨r5, 0, none⟩)], .func (Fn.func 100) #[] #[], .func (Fn.func 101) #[] #[.pointer (some ⟨p5, 0, none⟩)]] 69)) hb); have HB_ := Aside0.mk (HB.out.trans (hb1.mono HB.out.size)); have V1_ := Aside0.mk (V1.out.below hb1); have BK1_ := Aside0.mk (blk_below BK1.out hb1); have V2_ := Aside0.mk (V2.out.below hb1); have BK2_ := Aside0.mk (blk_below BK2.out hb1); have V3_ := Aside0.mk (V3.out.below hb1); have BK3_ := Aside0.mk (blk_below BK3.out hb1); have V4_ := Aside0.mk (V4.out.below hb1); have BK4_ := Aside0.mk (blk_below BK4.out hb1); have V5_ := Aside0.mk (V5.out.below hb1); clear HB V1 BK1 V2 BK2 V3 BK3 V4 BK4 V5; have HB := HB_; have V1 := V1_; have BK1 := BK1_; have V2 := V2_; have BK2 := BK2_; have V3 := V3_; have BK3 := BK3_; have V4 := V4_; have BK4 := BK4_; have V5 := V5_; clear HB_ V1_ BK1_ V2_ BK2_ V3_ BK3_ V4_ BK4_ V5_; have V6 : Aside0 (PartIs w6 .field [.int .i64 8, .func (Fn.func 102) #[] #[.pointer (some ⟨q6, 0, none⟩), .pointer (some ⟨s6, 0, none⟩), .pointer (some ⟨r6, 0, none⟩)], .func (Fn.func 100) #[] #[], .func (Fn.func 101) #[] #[.pointer (some ⟨p6, 0, none⟩)]]) := ⟨hV⟩; clear hV hb; clear hb1) | (go_at_call 74; (with_reducible refine (below_any 0 18 77 _).mono ?_); rintro e w7 ⟨p7, q7, r7, s7, rfl, hV, hb⟩; have hb1 := below_step (below_alloc (Below.refl w6.heap.size w6) _) hb; have BK6 := Aside0.mk (blk_below (blk_at (w := w6) (.cells #[.int .i64 8, .func (Fn.func 102) #[] #[.pointer (some ⟨q6, 0, none⟩), .pointer (some ⟨s6, 0, none⟩), .pointer (some ⟨r6, 0, none⟩)], .func (Fn.func 100) #[] #[], .func (Fn.func 101) #[] #[.pointer (some ⟨p6, 0, none⟩)]] 69)) hb); have HB_ := Aside0.mk (HB.out.trans (hb1.mono HB.out.size)); have V1_ := Aside0.mk (V1.out.below hb1); have BK1_ := Aside0.mk (blk_below BK1.out hb1); have V2_ := Aside0.mk (V2.out.below hb1); have BK2_ := Aside0.mk (blk_below BK2.out hb1); have V3_ := Aside0.mk (V3.out.below hb1); have BK3_ := Aside0.mk (blk_below BK3.out hb1); have V4_ := Aside0.mk (V4.out.below hb1); have BK4_ := Aside0.mk (blk_below BK4.out hb1); have V5_ := Aside0.mk (V5.out.below hb1); have BK5_ := Aside0.mk (blk_below BK5.out hb1); have V6_ := Aside0.mk (V6.out.below hb1); clear HB V1 BK1 V2 BK2 V3 BK3 V4 BK4 V5 BK5 V6; have HB := HB_; have V1 := V1_; have BK1 := BK1_; have V2 := V2_; have BK2 := BK2_; have V3 := V3_; have BK3 := BK3_; have V4 := V4_; have BK4 := BK4_; have V5 := V5_; have BK5 := BK5_; have V6 := V6_; clear HB_ V1_ BK1_ V2_ BK2_ V3_ BK3_ V4_ BK4_ V5_ BK5_ V6_; have V7 : Aside0 (PartIs w7 .glob [.int .i64 8, .func (Fn.func 102) #[] #[.pointer (some ⟨q7, 0, none⟩), .pointer (some ⟨s7, 0, none⟩), .pointer (some ⟨r7, 0, none⟩)], .func (Fn.func 100) #[] #[], .func (Fn.func 101) #[] #[.pointer (some ⟨p7, 0, none⟩)]]) := ⟨hV⟩; clear hV hb; clear hb1) | (go_at_call 74; (with_reducible refine (below_any 0 14 78 _).mono ?_); rintro e w8 ⟨p8, q8, r8, s8, rfl, hV, hb⟩; have hb1 := below_step (below_alloc (Below.refl w7.heap.size w7) _) hb; have BK7 := Aside0.mk (blk_below (blk_at (w := w7) (.cells #[.int .i64 8, .func (Fn.func 102) #[] #[.pointer (some ⟨q7, 0, none⟩), .pointer (some ⟨s7, 0, none⟩), .pointer (some ⟨r7, 0, none⟩)], .func (Fn.func 100) #[] #[], .func (Fn.func 101) #[] #[.pointer (some ⟨p7, 0, none⟩)]] 69)) hb); have HB_ := Aside0.mk (HB.out.trans (hb1.mono HB.out.size)); have V1_ := Aside0.mk (V1.out.below hb1); have BK1_ := Aside0.mk (blk_below BK1.out hb1); have V2_ := Aside0.mk (V2.out.below hb1); have BK2_ := Aside0.mk (blk_below BK2.out hb1); have V3_ := Aside0.mk (V3.out.below hb1); have BK3_ := Aside0.mk (blk_below BK3.out hb1); have V4_ := Aside0.mk (V4.out.below hb1); have BK4_ := Aside0.mk (blk_below BK4.out hb1); have V5_ := Aside0.mk (V5.out.below hb1); have BK5_ := Aside0.mk (blk_below BK5.out hb1); have V6_ := Aside0.mk (V6.out.below hb1); have BK6_ := Aside0.mk (blk_below BK6.out hb1); have V7_ := Aside0.mk (V7.out.below hb1); clear HB V1 BK1 V2 BK2 V3 BK3 V4 BK4 V5 BK5 V6 BK6 V7; have HB := HB_; have V1 := V1_; have BK1 := BK1_; have V2 := V2_; have BK2 := BK2_; have V3 := V3_; have BK3 := BK3_; have V4 := V4_; have BK4 := BK4_; have V5 := V5_; have BK5 := BK5_; have V6 := V6_; have BK6 := BK6_; have V7 := V7_; clear HB_ V1_ BK1_ V2_ BK2_ V3_ BK3_ V4_ BK4_ V5_ BK5_ V6_ BK6_ V7_; have V8 : Aside0 (PartIs w8 .func [.int .i64 8, .func (Fn.func 102) #[] #[.pointer (some ⟨q8, 0, none⟩), .pointer (some ⟨s8, 0, none⟩), .pointer (some ⟨r8, 0, none⟩)], .func (Fn.func 100) #[] #[], .func (Fn.func 101) #[] #[.pointer (some ⟨p8, 0, none⟩)]]) := ⟨hV⟩; clear hV hb; clear hb1) | (go_at_call 74; (with_reducible refine (below_any 0 16 79 _).mono ?_); rintro e w9 ⟨p9, q9, r9, s9, rfl, hV, hb⟩; have hb1 := below_step (below_alloc (Below.refl w8.heap.size w8) _) hb; have BK8 := Aside0.mk (blk_below (blk_at (w := w8) (.cells #[.int .i64 8, .func (Fn.func 102) #[] #[.pointer (some ⟨q8, 0, none⟩), .pointer (some ⟨s8, 0, none⟩), .pointer (some ⟨r8, 0, none⟩)], .func (Fn.func 100) #[] #[], .func (Fn.func 101) #[] #[.pointer (some ⟨p8, 0, none⟩)]] 69)) hb); have HB_ := Aside0.mk (HB.out.trans (hb1.mono HB.out.size)); have V1_ := Aside0.mk (V1.out.below hb1); have BK1_ := Aside0.mk (blk_below BK1.out hb1); have V2_ := Aside0.mk (V2.out.below hb1); have BK2_ := Aside0.mk (blk_below BK2.out hb1); have V3_ := Aside0.mk (V3.out.below hb1); have BK3_ := Aside0.mk (blk_below BK3.out hb1); have V4_ := Aside0.mk (V4.out.below hb1); have BK4_ := Aside0.mk (blk_below BK4.out hb1); have V5_ := Aside0.mk (V5.out.below hb1); have BK5_ := Aside0.mk (blk_below BK5.out hb1); have V6_ := Aside0.mk (V6.out.below hb1); have BK6_ := Aside0.mk (blk_below BK6.out hb1); have V7_ := Aside0.mk (V7.out.below hb1); have BK7_ := Aside0.mk (blk_below BK7.out hb1); have V8_ := Aside0.mk (V8.out.below hb1); clear HB V1 BK1 V2 BK2 V3 BK3 V4 BK4 V5 BK5 V6 BK6 V7 BK7 V8; have HB := HB_; have V1 := V1_; have BK1 := BK1_; have V2 := V2_; have BK2 := BK2_; have V3 := V3_; have BK3 := BK3_; have V4 := V4_; have BK4 := BK4_; have V5 := V5_; have BK5 := BK5_; have V6 := V6_; have BK6 := BK6_; have V7 := V7_; have BK7 := BK7_; have V8 := V8_; clear HB_ V1_ BK1_ V2_ BK2_ V3_ BK3_ V4_ BK4_ V5_ BK5_ V6_ BK6_ V7_ BK7_ V8_; have V9 : Aside0 (PartIs w9 .jump [.int .i64 8, .func (Fn.func 102) #[] #[.pointer (some ⟨q9, 0, none⟩), .pointer (some ⟨s9, 0, none⟩), .pointer (some ⟨r9, 0, none⟩)], .func (Fn.func 100) #[] #[], .func (Fn.func 101) #[] #[.pointer (some ⟨p9, 0, none⟩)]]) := ⟨hV⟩; clear hV hb; clear hb1) | (go_at_call 80; (with_reducible refine (list_any 16 81 82 _).mono ?_); rintro e w10 ⟨p10, q10, rfl, hV, hb⟩; have hb1 := below_step (below_alloc (Below.refl w9.heap.size w9) _) hb; have BK9 := Aside0.mk (blk_below (blk_at (w := w9) (.cells #[.int .i64 8, .func (Fn.func 102) #[] #[.pointer (some ⟨q9, 0, none⟩), .pointer (some ⟨s9, 0, none⟩), .pointer (some ⟨r9, 0, none⟩)], .func (Fn.func 100) #[] #[], .func (Fn.func 101) #[] #[.pointer (some ⟨p9, 0, none⟩)]] 69)) hb); have HB_ := Aside0.mk (HB.out.trans (hb1.mono HB.out.size)); have V1_ := Aside0.mk (V1.out.below hb1); have BK1_ := Aside0.mk (blk_below BK1.out hb1); have V2_ := Aside0.mk (V2.out.below hb1); have BK2_ := Aside0.mk (blk_below BK2.out hb1); have V3_ := Aside0.mk (V3.out.below hb1); have BK3_ := Aside0.mk (blk_below BK3.out hb1); have V4_ := Aside0.mk (V4.out.below hb1); have BK4_ := Aside0.mk (blk_below BK4.out hb1); have V5_ := Aside0.mk (V5.out.below hb1); have BK5_ := Aside0.mk (blk_below BK5.out hb1); have V6_ := Aside0.mk (V6.out.below hb1); have BK6_ := Aside0.mk (blk_below BK6.out hb1); have V7_ := Aside0.mk (V7.out.below hb1); have BK7_ := Aside0.mk (blk_below BK7.out hb1); have V8_ := Aside0.mk (V8.out.below hb1); have BK8_ := Aside0.mk (blk_below BK8.out hb1); have V9_ := Aside0.mk (V9.out.below hb1); clear HB V1 BK1 V2 BK2 V3 BK3 V4 BK4 V5 BK5 V6 BK6 V7 BK7 V8 BK8 V9; have HB := HB_; have V1 := V1_; have BK1 := BK1_; have V2 := V2_; have BK2 := BK2_; have V3 := V3_; have BK3 := BK3_; have V4 := V4_; have BK4 := BK4_; have V5 := V5_; have BK5 := BK5_; have V6 := V6_; have BK6 := BK6_; have V7 := V7_; have BK7 := BK7_; have V8 := V8_; have BK8 := BK8_; have V9 := V9_; clear HB_ V1_ BK1_ V2_ BK2_ V3_ BK3_ V4_ BK4_ V5_ BK5_ V6_ BK6_ V7_ BK7_ V8_ BK8_ V9_; have V10 : Aside0 (PartIs w10 .args [.int .i64 16, .func (Fn.func 103) #[] #[.pointer (some ⟨p10, 0, none⟩), .pointer (some ⟨q10, 0, none⟩)], .func (Fn.func 104) #[] #[.pointer (some ⟨p10, 0, none⟩)], .func (Fn.func 105) #[] #[.pointer (some ⟨q10, 0, none⟩), .pointer (some ⟨p10, 0, none⟩)]]) := ⟨hV⟩; clear hV hb; clear hb1) | (go_at_call 80; (with_reducible refine (list_any 32 83 84 _).mono ?_); rintro e w11 ⟨p11, q11, rfl, hV, hb⟩; have hb1 := below_step (below_alloc (Below.refl w10.heap.size w10) _) hb; have BK10 := Aside0.mk (blk_below (blk_at (w := w10) (.cells #[.int .i64 16, .func (Fn.func 103) #[] #[.pointer (some ⟨p10, 0, none⟩), .pointer (some ⟨q10, 0, none⟩)], .func (Fn.func 104) #[] #[.pointer (some ⟨p10, 0, none⟩)], .func (Fn.func 105) #[] #[.pointer (some ⟨q10, 0, none⟩), .pointer (some ⟨p10, 0, none⟩)]] 69)) hb); have HB_ := Aside0.mk (HB.out.trans (hb1.mono HB.out.size)); have V1_ := Aside0.mk (V1.out.below hb1); have BK1_ := Aside0.mk (blk_below BK1.out hb1); have V2_ := Aside0.mk (V2.out.below hb1); have BK2_ := Aside0.mk (blk_below BK2.out hb1); have V3_ := Aside0.mk (V3.out.below hb1); have BK3_ := Aside0.mk (blk_below BK3.out hb1); have V4_ := Aside0.mk (V4.out.below hb1); have BK4_ := Aside0.mk (blk_below BK4.out hb1); have V5_ := Aside0.mk (V5.out.below hb1); have BK5_ := Aside0.mk (blk_below BK5.out hb1); have V6_ := Aside0.mk (V6.out.below hb1); have BK6_ := Aside0.mk (blk_below BK6.out hb1); have V7_ := Aside0.mk (V7.out.below hb1); have BK7_ := Aside0.mk (blk_below BK7.out hb1); have V8_ := Aside0.mk (V8.out.below hb1); have BK8_ := Aside0.mk (blk_below BK8.out hb1); have V9_ := Aside0.mk (V9.out.below hb1); have BK9_ := Aside0.mk (blk_below BK9.out hb1); have V10_ := Aside0.mk (V10.out.below hb1); clear HB V1 BK1 V2 BK2 V3 BK3 V4 BK4 V5 BK5 V6 BK6 V7 BK7 V8 BK8 V9 BK9 V10; have HB := HB_; have V1 := V1_; have BK1 := BK1_; have V2 := V2_; have BK2 := BK2_; have V3 := V3_; have BK3 := BK3_; have V4 := V4_; have BK4 := BK4_; have V5 := V5_; have BK5 := BK5_; have V6 := V6_; have BK6 := BK6_; have V7 := V7_; have BK7 := BK7_; have V8 := V8_; have BK8 := BK8_; have V9 := V9_; have BK9 := BK9_; have V10 := V10_; clear HB_ V1_ BK1_ V2_ BK2_ V3_ BK3_ V4_ BK4_ V5_ BK5_ V6_ BK6_ V7_ BK7_ V8_ BK8_ V9_ BK9_ V10_; have V11 : Aside0 (PartIs w11 .rets [.int .i64 32, .func (Fn.func 103) #[] #[.pointer (some ⟨p11, 0, none⟩), .pointer (some ⟨q11, 0, none⟩)], .func (Fn.func 104) #[] #[.pointer (some ⟨p11, 0, none⟩)], .func (Fn.func 105) #[] #[.pointer (some ⟨q11, 0, none⟩), .pointer (some ⟨p11, 0, none⟩)]]) := ⟨hV⟩; clear hV hb; clear hb1) | (go_at_call 80; (with_reducible refine (list_any 16 81 85 _).mono ?_); rintro e w12 ⟨p12, q12, rfl, hV, hb⟩; have hb1 := below_step (below_alloc (Below.refl w11.heap.size w11) _) hb; have BK11 := Aside0.mk (blk_below (blk_at (w := w11) (.cells #[.int .i64 32, .func (Fn.func 103) #[] #[.pointer (some ⟨p11, 0, none⟩), .pointer (some ⟨q11, 0, none⟩)], .func (Fn.func 104) #[] #[.pointer (some ⟨p11, 0, none⟩)], .func (Fn.func 105) #[] #[.pointer (some ⟨q11, 0, none⟩), .pointer (some ⟨p11, 0, none⟩)]] 69)) hb); have HB_ := Aside0.mk (HB.out.trans (hb1.mono HB.out.size)); have V1_ := Aside0.mk (V1.out.below hb1); have BK1_ := Aside0.mk (blk_below BK1.out hb1); have V2_ := Aside0.mk (V2.out.below hb1); have BK2_ := Aside0.mk (blk_below BK2.out hb1); have V3_ := Aside0.mk (V3.out.below hb1); have BK3_ := Aside0.mk (blk_below BK3.out hb1); have V4_ := Aside0.mk (V4.out.below hb1); have BK4_ := Aside0.mk (blk_below BK4.out hb1); have V5_ := Aside0.mk (V5.out.below hb1); have BK5_ := Aside0.mk (blk_below BK5.out hb1); have V6_ := Aside0.mk (V6.out.below hb1); have BK6_ := Aside0.mk (blk_below BK6.out hb1); have V7_ := Aside0.mk (V7.out.below hb1); have BK7_ := Aside0.mk (blk_below BK7.out hb1); have V8_ := Aside0.mk (V8.out.below hb1); have BK8_ := Aside0.mk (blk_below BK8.out hb1); have V9_ := Aside0.mk (V9.out.below hb1); have BK9_ := Aside0.mk (blk_below BK9.out hb1); have V10_ := Aside0.mk (V10.out.below hb1); have BK10_ := Aside0.mk (blk_below BK10.out hb1); have V11_ := Aside0.mk (V11.out.below hb1); clear HB V1 BK1 V2 BK2 V3 BK3 V4 BK4 V5 BK5 V6 BK6 V7 BK7 V8 BK8 V9 BK9 V10 BK10 V11; have HB := HB_; have V1 := V1_; have BK1 := BK1_; have V2 := V2_; have BK2 := BK2_; have V3 := V3_; have BK3 := BK3_; have V4 := V4_; have BK4 := BK4_; have V5 := V5_; have BK5 := BK5_; have V6 := V6_; have BK6 := BK6_; have V7 := V7_; have BK7 := BK7_; have V8 := V8_; have BK8 := BK8_; have V9 := V9_; have BK9 := BK9_; have V10 := V10_; have BK10 := BK10_; have V11 := V11_; clear HB_ V1_ BK1_ V2_ BK2_ V3_ BK3_ V4_ BK4_ V5_ BK5_ V6_ BK6_ V7_ BK7_ V8_ BK8_ V9_ BK9_ V10_ BK10_ V11_; have V12 : Aside0 (PartIs w12 .vals [.int .i64 16, .func (Fn.func 103) #[] #[.pointer (some ⟨p12, 0, none⟩), .pointer (some ⟨q12, 0, none⟩)], .func (Fn.func 104) #[] #[.pointer (some ⟨p12, 0, none⟩)], .func (Fn.func 105) #[] #[.pointer (some ⟨q12, 0, none⟩), .pointer (some ⟨p12, 0, none⟩)]]) := ⟨hV⟩; clear hV hb; clear hb1; have z1_0 : (w12.alloc (.cells #[.int .i64 16, .func (Fn.func 103) #[] #[.pointer (some ⟨p12, 0, none⟩), .pointer (some ⟨q12, 0, none⟩)], .func (Fn.func 104) #[] #[.pointer (some ⟨p12, 0, none⟩)], .func (Fn.func 105) #[] #[.pointer (some ⟨q12, 0, none⟩), .pointer (some ⟨p12, 0, none⟩)]] 69)).cell? ⟨w1.heap.size, 0, none⟩ = some (.int .i64 1) := (blk_cell (blk_alloc BK1.out _) 0).trans rfl; have z1_1 : (w12.alloc (.cells #[.int .i64 16, .func (Fn.func 103) #[] #[.pointer (some ⟨p12, 0, none⟩), .pointer (some ⟨q12, 0, none⟩)], .func (Fn.func 104) #[] #[.pointer (some ⟨p12, 0, none⟩)], .func (Fn.func 105) #[] #[.pointer (some ⟨q12, 0, none⟩), .pointer (some ⟨p12, 0, none⟩)]] 69)).cell? ⟨w1.heap.size, 1, none⟩ = some (.func (Fn.func 97) #[] #[.pointer (some ⟨p1, 0, none⟩)]) := (blk_cell (blk_alloc BK1.out _) 1).trans rfl; have z1_2 : (w12.alloc (.cells #[.int .i64 16, .func (Fn.func 103) #[] #[.pointer (some ⟨p12, 0, none⟩), .pointer (some ⟨q12, 0, none⟩)], .func (Fn.func 104) #[] #[.pointer (some ⟨p12, 0, none⟩)], .func (Fn.func 105) #[] #[.pointer (some ⟨q12, 0, none⟩), .pointer (some ⟨p12, 0, none⟩)]] 69)).cell? ⟨w1.heap.size, 2, none⟩ = some (.func (Fn.func 98) #[] #[.pointer (some ⟨p1, 0, none⟩)]) := (blk_cell (blk_alloc BK1.out _) 2).trans rfl; have z1_3 : (w12.alloc (.cells #[.int .i64 16, .func (Fn.func 103) #[] #[.pointer (some ⟨p12, 0, none⟩), .pointer (some ⟨q12, 0, none⟩)], .func (Fn.func 104) #[] #[.pointer (some ⟨p12, 0, none⟩)], .func (Fn.func 105) #[] #[.pointer (some ⟨q12, 0, none⟩), .pointer (some ⟨p12, 0, none⟩)]] 69)).cell? ⟨w1.heap.size, 3, none⟩ = some (.func (Fn.func 99) #[] #[.pointer (some ⟨p1, 0, none⟩), .pointer (some ⟨q1, 0, none⟩)]) := (blk_cell (blk_alloc BK1.out _) 3).trans rfl; have z4_0 : (w12.alloc (.cells #[.int .i64 16, .func (Fn.func 103) #[] #[.pointer (some ⟨p12, 0, none⟩), .pointer (some ⟨q12, 0, none⟩)], .func (Fn.func 104) #[] #[.pointer (some ⟨p12, 0, none⟩)], .func (Fn.func 105) #[] #[.pointer (some ⟨q12, 0, none⟩), .pointer (some ⟨p12, 0, none⟩)]] 69)).cell? ⟨w4.heap.size, 0, none⟩ = some (.int .i64 8) := (blk_cell (blk_alloc BK4.out _) 0).trans rfl; have z4_1 : (w12.alloc (.cells #[.int .i64 16, .func (Fn.func 103) #[] #[.pointer (some ⟨p12, 0, none⟩), .pointer (some ⟨q12, 0, none⟩)], .func (Fn.func 104) #[] #[.pointer (some ⟨p12, 0, none⟩)], .func (Fn.func 105) #[] #[.pointer (some ⟨q12, 0, none⟩), .pointer (some ⟨p12, 0, none⟩)]] 69)).cell? ⟨w4.heap.size, 1, none⟩ = some (.func (Fn.func 73) #[] #[]) := (blk_cell (blk_alloc BK4.out _) 1).trans rfl; have z4_2 : (w12.alloc (.cells #[.int .i64 16, .func (Fn.func 103) #[] #[.pointer (some ⟨p12, 0, none⟩), .pointer (some ⟨q12, 0, none⟩)], .func (Fn.func 104) #[] #[.pointer (some ⟨p12, 0, none⟩)], .func (Fn.func 105) #[] #[.pointer (some ⟨q12, 0, none⟩), .pointer (some ⟨p12, 0, none⟩)]] 69)).cell? ⟨w4.heap.size, 2, none⟩ = some (.func (Fn.func 100) #[] #[]) := (blk_cell (blk_alloc BK4.out _) 2).trans rfl; have z4_3 : (w12.alloc (.cells #[.int .i64 16, .func (Fn.func 103) #[] #[.pointer (some ⟨p12, 0, none⟩), .pointer (some ⟨q12, 0, none⟩)], .func (Fn.func 104) #[] #[.pointer (some ⟨p12, 0, none⟩)], .func (Fn.func 105) #[] #[.pointer (some ⟨q12, 0, none⟩), .pointer (some ⟨p12, 0, none⟩)]] 69)).cell? ⟨w4.heap.size, 3, none⟩ = some (.func (Fn.func 101) #[] #[.pointer (some ⟨p4, 0, none⟩)]) := (blk_cell (blk_alloc BK4.out _) 3).trans rfl) | ((with_reducible refine gate_dst (N := 27) rfl ?_); refine val_event ?hg (N := 27) ?hd (v := fun g => .slice (some ⟨g, 0, none⟩) 2 2) (cs := #[.int .i64 1, .func (Fn.func 97) #[] #[.pointer (some ⟨p1, 0, none⟩)], .func (Fn.func 98) #[] #[.pointer (some ⟨p1, 0, none⟩)], .func (Fn.func 99) #[] #[.pointer (some ⟨p1, 0, none⟩), .pointer (some ⟨q1, 0, none⟩)], .int .i64 8, .func (Fn.func 73) #[] #[], .func (Fn.func 100) #[] #[], .func (Fn.func 101) #[] #[.pointer (some ⟨p4, 0, none⟩)]]) (t := 69) ?hr ?_; (case hd => rfl); (case hg => rfl); (case hr => first | (go_simp; done) | (go_simp; rfl)); intro g27 hg w27 hbox hb; clear z1_0 z1_1 z1_2 z1_3 z4_0 z4_1 z4_2 z4_3; have hb1 := below_step (below_alloc (Below.refl w12.heap.size w12) _) hb; have BK12 := Aside0.mk (blk_below (blk_at (w := w12) (.cells #[.int .i64 16, .func (Fn.func 103) #[] #[.pointer (some ⟨p12, 0, none⟩), .pointer (some ⟨q12, 0, none⟩)], .func (Fn.func 104) #[] #[.pointer (some ⟨p12, 0, none⟩)], .func (Fn.func 105) #[] #[.pointer (some ⟨q12, 0, none⟩), .pointer (some ⟨p12, 0, none⟩)]] 69)) hb); have HB_ := Aside0.mk (HB.out.trans (hb1.mono HB.out.size)); have V1_ := Aside0.mk (V1.out.below hb1); have BK1_ := Aside0.mk (blk_below BK1.out hb1); have V2_ := Aside0.mk (V2.out.below hb1); have BK2_ := Aside0.mk (blk_below BK2.out hb1); have V3_ := Aside0.mk (V3.out.below hb1); have BK3_ := Aside0.mk (blk_below BK3.out hb1); have V4_ := Aside0.mk (V4.out.below hb1); have BK4_ := Aside0.mk (blk_below BK4.out hb1); have V5_ := Aside0.mk (V5.out.below hb1); have BK5_ := Aside0.mk (blk_below BK5.out hb1); have V6_ := Aside0.mk (V6.out.below hb1); have BK6_ := Aside0.mk (blk_below BK6.out hb1); have V7_ := Aside0.mk (V7.out.below hb1); have BK7_ := Aside0.mk (blk_below BK7.out hb1); have V8_ := Aside0.mk (V8.out.below hb1); have BK8_ := Aside0.mk (blk_below BK8.out hb1); have V9_ := Aside0.mk (V9.out.below hb1); have BK9_ := Aside0.mk (blk_below BK9.out hb1); have V10_ := Aside0.mk (V10.out.below hb1); have BK10_ := Aside0.mk (blk_below BK10.out hb1); have V11_ := Aside0.mk (V11.out.below hb1); have BK11_ := Aside0.mk (blk_below BK11.out hb1); have V12_ := Aside0.mk (V12.out.below hb1); clear HB V1 BK1 V2 BK2 V3 BK3 V4 BK4 V5 BK5 V6 BK6 V7 BK7 V8 BK8 V9 BK9 V10 BK10 V11 BK11 V12; have HB := HB_; have V1 := V1_; have BK1 := BK1_; have V2 := V2_; have BK2 := BK2_; have V3 := V3_; have BK3 := BK3_; have V4 := V4_; have BK4 := BK4_; have V5 := V5_; have BK5 := BK5_; have V6 := V6_; have BK6 := BK6_; have V7 := V7_; have BK7 := BK7_; have V8 := V8_; have BK8 := BK8_; have V9 := V9_; have BK9 := BK9_; have V10 := V10_; have BK10 := BK10_; have V11 := V11_; have BK11 := BK11_; have V12 := V12_; clear HB_ V1_ BK1_ V2_ BK2_ V3_ BK3_ V4_ BK4_ V5_ BK5_ V6_ BK6_ V7_ BK7_ V8_ BK8_ V9_ BK9_ V10_ BK10_ V11_ BK11_ V12_; clear hb1; have BK27 := Aside0.mk hbox; clear hg hbox hb; have z1_0 : w27.cell? ⟨w1.heap.size, 0, none⟩ = some (.int .i64 1) := (blk_cell BK1.out 0).trans rfl; have z1_1 : w27.cell? ⟨w1.heap.size, 1, none⟩ = some (.func (Fn.func 97) #[] #[.pointer (some ⟨p1, 0, none⟩)]) := (blk_cell BK1.out 1).trans rfl; have z1_2 : w27.cell? ⟨w1.heap.size, 2, none⟩ = some (.func (Fn.func 98) #[] #[.pointer (some ⟨p1, 0, none⟩)]) := (blk_cell BK1.out 2).trans rfl; have z1_3 : w27.cell? ⟨w1.heap.size, 3, none⟩ = some (.func (Fn.func 99) #[] #[.pointer (some ⟨p1, 0, none⟩), .pointer (some ⟨q1, 0, none⟩)]) := (blk_cell BK1.out 3).trans rfl; have z2_0 : w27.cell? ⟨w2.heap.size, 0, none⟩ = some (.int .i64 2) := (blk_cell BK2.out 0).trans rfl; have z2_1 : w27.cell? ⟨w2.heap.size, 1, none⟩ = some (.func (Fn.func 97) #[] #[.pointer (some ⟨p2, 0, none⟩)]) := (blk_cell BK2.out 1).trans rfl; have z2_2 : w27.cell? ⟨w2.heap.size, 2, none⟩ = some (.func (Fn.func 98) #[] #[.pointer (some ⟨p2, 0, none⟩)]) := (blk_cell BK2.out 2).trans rfl; have z2_3 : w27.cell? ⟨w2.heap.size, 3, none⟩ = some (.func (Fn.func 99) #[] #[.pointer (some ⟨p2, 0, none⟩), .pointer (some ⟨q2, 0, none⟩)]) := (blk_cell BK2.out 3).trans rfl) | ((with_reducible refine gate_dst (N := 30) rfl ?_); refine val_event ?hg (N := 30) ?hd (v := fun g => .slice (some ⟨g, 0, none⟩) 2 2) (cs := #[.int .i64 1, .func (Fn.func 97) #[] #[.pointer (some ⟨p1, 0, none⟩)], .func (Fn.func 98) #[] #[.pointer (some ⟨p1, 0, none⟩)], .func (Fn.func 99) #[] #[.pointer (some ⟨p1, 0, none⟩), .pointer (some ⟨q1, 0, none⟩)], .int .i64 2, .func (Fn.func 97) #[] #[.pointer (some ⟨p2, 0, none⟩)], .func (Fn.func 98) #[] #[.pointer (some ⟨p2, 0, none⟩)], .func (Fn.func 99) #[] #[.pointer (some ⟨p2, 0, none⟩), .pointer (some ⟨q2, 0, none⟩)]]) (t := 69) ?hr ?_; (case hd => rfl); (case hg => rfl); (case hr => first | (go_simp; done) | (go_simp; rfl)); intro g30 hg w30 hbox hb; clear z1_0 z1_1 z1_2 z1_3 z2_0 z2_1 z2_2 z2_3; have HB_ := Aside0.mk (HB.out.trans (hb.mono HB.out.size)); have V1_ := Aside0.mk (V1.out.below hb); have BK1_ := Aside0.mk (blk_below BK1.out hb); have V2_ := Aside0.mk (V2.out.below hb); have BK2_ := Aside0.mk (blk_below BK2.out hb); have V3_ := Aside0.mk (V3.out.below hb); have BK3_ := Aside0.mk (blk_below BK3.out hb); have V4_ := Aside0.mk (V4.out.below hb); have BK4_ := Aside0.mk (blk_below BK4.out hb); have V5_ := Aside0.mk (V5.out.below hb); have BK5_ := Aside0.mk (blk_below BK5.out hb); have V6_ := Aside0.mk (V6.out.below hb); have BK6_ := Aside0.mk (blk_below BK6.out hb); have V7_ := Aside0.mk (V7.out.below hb); have BK7_ := Aside0.mk (blk_below BK7.out hb); have V8_ := Aside0.mk (V8.out.below hb); have BK8_ := Aside0.mk (blk_below BK8.out hb); have V9_ := Aside0.mk (V9.out.below hb); have BK9_ := Aside0.mk (blk_below BK9.out hb); have V10_ := Aside0.mk (V10.out.below hb); have BK10_ := Aside0.mk (blk_below BK10.out hb); have V11_ := Aside0.mk (V11.out.below hb); have BK11_ := Aside0.mk (blk_below BK11.out hb); have V12_ := Aside0.mk (V12.out.below hb); have BK12_ := Aside0.mk (blk_below BK12.out hb); have BK27_ := Aside0.mk (blk_below BK27.out hb); clear HB V1 BK1 V2 BK2 V3 BK3 V4 BK4 V5 BK5 V6 BK6 V7 BK7 V8 BK8 V9 BK9 V10 BK10 V11 BK11 V12 BK12 BK27; have HB := HB_; have V1 := V1_; have BK1 := BK1_; have V2 := V2_; have BK2 := BK2_; have V3 := V3_; have BK3 := BK3_; have V4 := V4_; have BK4 := BK4_; have V5 := V5_; have BK5 := BK5_; have V6 := V6_; have BK6 := BK6_; have V7 := V7_; have BK7 := BK7_; have V8 := V8_; have BK8 := BK8_; have V9 := V9_; have BK9 := BK9_; have V10 := V10_; have BK10 := BK10_; have V11 := V11_; have BK11 := BK11_; have V12 := V12_; have BK12 := BK12_; have BK27 := BK27_; clear HB_ V1_ BK1_ V2_ BK2_ V3_ BK3_ V4_ BK4_ V5_ BK5_ V6_ BK6_ V7_ BK7_ V8_ BK8_ V9_ BK9_ V10_ BK10_ V11_ BK11_ V12_ BK12_ BK27_; have BK30 := Aside0.mk hbox; clear hg hbox hb; have z1_0 : w30.cell? ⟨w1.heap.size, 0, none⟩ = some (.int .i64 1) := (blk_cell BK1.out 0).trans rfl; have z1_1 : w30.cell? ⟨w1.heap.size, 1, none⟩ = some (.func (Fn.func 97) #[] #[.pointer (some ⟨p1, 0, none⟩)]) := (blk_cell BK1.out 1).trans rfl; have z1_2 : w30.cell? ⟨w1.heap.size, 2, none⟩ = some (.func (Fn.func 98) #[] #[.pointer (some ⟨p1, 0, none⟩)]) := (blk_cell BK1.out 2).trans rfl; have z1_3 : w30.cell? ⟨w1.heap.size, 3, none⟩ = some (.func (Fn.func 99) #[] #[.pointer (some ⟨p1, 0, none⟩), .pointer (some ⟨q1, 0, none⟩)]) := (blk_cell BK1.out 3).trans rfl; have z2_0 : w30.cell? ⟨w2.heap.size, 0, none⟩ = some (.int .i64 2) := (blk_cell BK2.out 0).trans rfl; have z2_1 : w30.cell? ⟨w2.heap.size, 1, none⟩ = some (.func (Fn.func 97) #[] #[.pointer (some ⟨p2, 0, none⟩)]) := (blk_cell BK2.out 1).trans rfl; have z2_2 : w30.cell? ⟨w2.heap.size, 2, none⟩ = some (.func (Fn.func 98) #[] #[.pointer (some ⟨p2, 0, none⟩)]) := (blk_cell BK2.out 2).trans rfl; have z2_3 : w30.cell? ⟨w2.heap.size, 3, none⟩ = some (.func (Fn.func 99) #[] #[.pointer (some ⟨p2, 0, none⟩), .pointer (some ⟨q2, 0, none⟩)]) := (blk_cell BK2.out 3).trans rfl; have z3_0 : w30.cell? ⟨w3.heap.size, 0, none⟩ = some (.int .i64 4) := (blk_cell BK3.out 0).trans rfl; have z3_1 : w30.cell? ⟨w3.heap.size, 1, none⟩ = some (.func (Fn.func 97) #[] #[.pointer (some ⟨p3, 0, none⟩)]) := (blk_cell BK3.out 1).trans rfl; have z3_2 : w30.cell? ⟨w3.heap.size, 2, none⟩ = some (.func (Fn.func 98) #[] #[.pointer (some ⟨p3, 0, none⟩)]) := (blk_cell BK3.out 2).trans rfl; have z3_3 : w30.cell? ⟨w3.heap.size, 3, none⟩ = some (.func (Fn.func 99) #[] #[.pointer (some ⟨p3, 0, none⟩), .pointer (some ⟨q3, 0, none⟩)]) := (blk_cell BK3.out 3).trans rfl) | ((with_reducible refine gate_dst (N := 34) rfl ?_); refine val_event ?hg (N := 34) ?hd (v := fun g => .slice (some ⟨g, 0, none⟩) 3 3) (cs := #[.int .i64 1, .func (Fn.func 97) #[] #[.pointer (some ⟨p1, 0, none⟩)], .func (Fn.func 98) #[] #[.pointer (some ⟨p1, 0, none⟩)], .func (Fn.func 99) #[] #[.pointer (some ⟨p1, 0, none⟩), .pointer (some ⟨q1, 0, none⟩)], .int .i64 2, .func (Fn.func 97) #[] #[.pointer (some ⟨p2, 0, none⟩)], .func (Fn.func 98) #[] #[.pointer (some ⟨p2, 0, none⟩)], .func (Fn.func 99) #[] #[.pointer (some ⟨p2, 0, none⟩), .pointer (some ⟨q2, 0, none⟩)], .int .i64 4, .func (Fn.func 97) #[] #[.pointer (some ⟨p3, 0, none⟩)], .func (Fn.func 98) #[] #[.pointer (some ⟨p3, 0, none⟩)], .func (Fn.func 99) #[] #[.pointer (some ⟨p3, 0, none⟩), .pointer (some ⟨q3, 0, none⟩)]]) (t := 69) ?hr ?_; (case hd => rfl); (case hg => rfl); (case hr => first | (go_simp; done) | (go_simp; rfl)); intro g34 hg w34 hbox hb; clear z1_0 z1_1 z1_2 z1_3 z2_0 z2_1 z2_2 z2_3 z3_0 z3_1 z3_2 z3_3; have HB_ := Aside0.mk (HB.out.trans (hb.mono HB.out.size)); have V1_ := Aside0.mk (V1.out.below hb); have BK1_ := Aside0.mk (blk_below BK1.out hb); have V2_ := Aside0.mk (V2.out.below hb); have BK2_ := Aside0.mk (blk_below BK2.out hb); have V3_ := Aside0.mk (V3.out.below hb); have BK3_ := Aside0.mk (blk_below BK3.out hb); have V4_ := Aside0.mk (V4.out.below hb); have BK4_ := Aside0.mk (blk_below BK4.out hb); have V5_ := Aside0.mk (V5.out.below hb); have BK5_ := Aside0.mk (blk_below BK5.out hb); have V6_ := Aside0.mk (V6.out.below hb); have BK6_ := Aside0.mk (blk_below BK6.out hb); have V7_ := Aside0.mk (V7.out.below hb); have BK7_ := Aside0.mk (blk_below BK7.out hb); have V8_ := Aside0.mk (V8.out.below hb); have BK8_ := Aside0.mk (blk_below BK8.out hb); have V9_ := Aside0.mk (V9.out.below hb); have BK9_ := Aside0.mk (blk_below BK9.out hb); have V10_ := Aside0.mk (V10.out.below hb); have BK10_ := Aside0.mk (blk_below BK10.out hb); have V11_ := Aside0.mk (V11.out.below hb); have BK11_ := Aside0.mk (blk_below BK11.out hb); have V12_ := Aside0.mk (V12.out.below hb); have BK12_ := Aside0.mk (blk_below BK12.out hb); have BK27_ := Aside0.mk (blk_below BK27.out hb); have BK30_ := Aside0.mk (blk_below BK30.out hb); clear HB V1 BK1 V2 BK2 V3 BK3 V4 BK4 V5 BK5 V6 BK6 V7 BK7 V8 BK8 V9 BK9 V10 BK10 V11 BK11 V12 BK12 BK27 BK30; have HB := HB_; have V1 := V1_; have BK1 := BK1_; have V2 := V2_; have BK2 := BK2_; have V3 := V3_; have BK3 := BK3_; have V4 := V4_; have BK4 := BK4_; have V5 := V5_; have BK5 := BK5_; have V6 := V6_; have BK6 := BK6_; have V7 := V7_; have BK7 := BK7_; have V8 := V8_; have BK8 := BK8_; have V9 := V9_; have BK9 := BK9_; have V10 := V10_; have BK10 := BK10_; have V11 := V11_; have BK11 := BK11_; have V12 := V12_; have BK12 := BK12_; have BK27 := BK27_; have BK30 := BK30_; clear HB_ V1_ BK1_ V2_ BK2_ V3_ BK3_ V4_ BK4_ V5_ BK5_ V6_ BK6_ V7_ BK7_ V8_ BK8_ V9_ BK9_ V10_ BK10_ V11_ BK11_ V12_ BK12_ BK27_ BK30_; have BK34 := Aside0.mk hbox; clear hg hbox hb; have z1_0 : w34.cell? ⟨w1.heap.size, 0, none⟩ = some (.int .i64 1) := (blk_cell BK1.out 0).trans rfl; have z1_1 : w34.cell? ⟨w1.heap.size, 1, none⟩ = some (.func (Fn.func 97) #[] #[.pointer (some ⟨p1, 0, none⟩)]) := (blk_cell BK1.out 1).trans rfl; have z1_2 : w34.cell? ⟨w1.heap.size, 2, none⟩ = some (.func (Fn.func 98) #[] #[.pointer (some ⟨p1, 0, none⟩)]) := (blk_cell BK1.out 2).trans rfl; have z1_3 : w34.cell? ⟨w1.heap.size, 3, none⟩ = some (.func (Fn.func 99) #[] #[.pointer (some ⟨p1, 0, none⟩), .pointer (some ⟨q1, 0, none⟩)]) := (blk_cell BK1.out 3).trans rfl; have z2_0 : w34.cell? ⟨w2.heap.size, 0, none⟩ = some (.int .i64 2) := (blk_cell BK2.out 0).trans rfl; have z2_1 : w34.cell? ⟨w2.heap.size, 1, none⟩ = some (.func (Fn.func 97) #[] #[.pointer (some ⟨p2, 0, none⟩)]) := (blk_cell BK2.out 1).trans rfl; have z2_2 : w34.cell? ⟨w2.heap.size, 2, none⟩ = some (.func (Fn.func 98) #[] #[.pointer (some ⟨p2, 0, none⟩)]) := (blk_cell BK2.out 2).trans rfl; have z2_3 : w34.cell? ⟨w2.heap.size, 3, none⟩ = some (.func (Fn.func 99) #[] #[.pointer (some ⟨p2, 0, none⟩), .pointer (some ⟨q2, 0, none⟩)]) := (blk_cell BK2.out 3).trans rfl; have z3_0 : w34.cell? ⟨w3.heap.size, 0, none⟩ = some (.int .i64 4) := (blk_cell BK3.out 0).trans rfl; have z3_1 : w34.cell? ⟨w3.heap.size, 1, none⟩ = some (.func (Fn.func 97) #[] #[.pointer (some ⟨p3, 0, none⟩)]) := (blk_cell BK3.out 1).trans rfl; have z3_2 : w34.cell? ⟨w3.heap.size, 2, none⟩ = some (.func (Fn.func 98) #[] #[.pointer (some ⟨p3, 0, none⟩)]) := (blk_cell BK3.out 2).trans rfl; have z3_3 : w34.cell? ⟨w3.heap.size, 3, none⟩ = some (.func (Fn.func 99) #[] #[.pointer (some ⟨p3, 0, none⟩), .pointer (some ⟨q3, 0, none⟩)]) := (blk_cell BK3.out 3).trans rfl) | ((with_reducible refine gate_dst (N := 38) rfl ?_); refine val_event ?hg (N := 38) ?hd (v := fun g => .slice (some ⟨g, 0, none⟩) 3 3) (cs := #[.int .i64 1, .func (Fn.func 97) #[] #[.pointer (some ⟨p1, 0, none⟩)], .func (Fn.func 98) #[] #[.pointer (some ⟨p1, 0, none⟩)], .func (Fn.func 99) #[] #[.pointer (some ⟨p1, 0, none⟩), .pointer (some ⟨q1, 0, none⟩)], .int .i64 2, .func (Fn.func 97) #[] #[.pointer (some ⟨p2, 0, none⟩)], .func (Fn.func 98) #[] #[.pointer (some ⟨p2, 0, none⟩)], .func (Fn.func 99) #[] #[.pointer (some ⟨p2, 0, none⟩), .pointer (some ⟨q2, 0, none⟩)], .int .i64 4, .func (Fn.func 97) #[] #[.pointer (some ⟨p3, 0, none⟩)], .func (Fn.func 98) #[] #[.pointer (some ⟨p3, 0, none⟩)], .func (Fn.func 99) #[] #[.pointer (some ⟨p3, 0, none⟩), .pointer (some ⟨q3, 0, none⟩)]]) (t := 69) ?hr ?_; (case hd => rfl); (case hg => rfl); (case hr => first | (go_simp; done) | (go_simp; rfl)); intro g38 hg w38 hbox hb; clear z1_0 z1_1 z1_2 z1_3 z2_0 z2_1 z2_2 z2_3 z3_0 z3_1 z3_2 z3_3; have HB_ := Aside0.mk (HB.out.trans (hb.mono HB.out.size)); have V1_ := Aside0.mk (V1.out.below hb); have BK1_ := Aside0.mk (blk_below BK1.out hb); have V2_ := Aside0.mk (V2.out.below hb); have BK2_ := Aside0.mk (blk_below BK2.out hb); have V3_ := Aside0.mk (V3.out.below hb); have BK3_ := Aside0.mk (blk_below BK3.out hb); have V4_ := Aside0.mk (V4.out.below hb); have BK4_ := Aside0.mk (blk_below BK4.out hb); have V5_ := Aside0.mk (V5.out.below hb); have BK5_ := Aside0.mk (blk_below BK5.out hb); have V6_ := Aside0.mk (V6.out.below hb); have BK6_ := Aside0.mk (blk_below BK6.out hb); have V7_ := Aside0.mk (V7.out.below hb); have BK7_ := Aside0.mk (blk_below BK7.out hb); have V8_ := Aside0.mk (V8.out.below hb); have BK8_ := Aside0.mk (blk_below BK8.out hb); have V9_ := Aside0.mk (V9.out.below hb); have BK9_ := Aside0.mk (blk_below BK9.out hb); have V10_ := Aside0.mk (V10.out.below hb); have BK10_ := Aside0.mk (blk_below BK10.out hb); have V11_ := Aside0.mk (V11.out.below hb); have BK11_ := Aside0.mk (blk_below BK11.out hb); have V12_ := Aside0.mk (V12.out.below hb); have BK12_ := Aside0.mk (blk_below BK12.out hb); have BK27_ := Aside0.mk (blk_below BK27.out hb); have BK30_ := Aside0.mk (blk_below BK30.out hb); have BK34_ := Aside0.mk (blk_below BK34.out hb); clear HB V1 BK1 V2 BK2 V3 BK3 V4 BK4 V5 BK5 V6 BK6 V7 BK7 V8 BK8 V9 BK9 V10 BK10 V11 BK11 V12 BK12 BK27 BK30 BK34; have HB := HB_; have V1 := V1_; have BK1 := BK1_; have V2 := V2_; have BK2 := BK2_; have V3 := V3_; have BK3 := BK3_; have V4 := V4_; have BK4 := BK4_; have V5 := V5_; have BK5 := BK5_; have V6 := V6_; have BK6 := BK6_; have V7 := V7_; have BK7 := BK7_; have V8 := V8_; have BK8 := BK8_; have V9 := V9_; have BK9 := BK9_; have V10 := V10_; have BK10 := BK10_; have V11 := V11_; have BK11 := BK11_; have V12 := V12_; have BK12 := BK12_; have BK27 := BK27_; have BK30 := BK30_; have BK34 := BK34_; clear HB_ V1_ BK1_ V2_ BK2_ V3_ BK3_ V4_ BK4_ V5_ BK5_ V6_ BK6_ V7_ BK7_ V8_ BK8_ V9_ BK9_ V10_ BK10_ V11_ BK11_ V12_ BK12_ BK27_ BK30_ BK34_; have BK38 := Aside0.mk hbox; clear hg hbox hb; have z1_0 : w38.cell? ⟨w1.heap.size, 0, none⟩ = some (.int .i64 1) := (blk_cell BK1.out 0).trans rfl; have z1_1 : w38.cell? ⟨w1.heap.size, 1, none⟩ = some (.func (Fn.func 97) #[] #[.pointer (some ⟨p1, 0, none⟩)]) := (blk_cell BK1.out 1).trans rfl; have z1_2 : w38.cell? ⟨w1.heap.size, 2, none⟩ = some (.func (Fn.func 98) #[] #[.pointer (some ⟨p1, 0, none⟩)]) := (blk_cell BK1.out 2).trans rfl; have z1_3 : w38.cell? ⟨w1.heap.size, 3, none⟩ = some (.func (Fn.func 99) #[] #[.pointer (some ⟨p1, 0, none⟩), .pointer (some ⟨q1, 0, none⟩)]) := (blk_cell BK1.out 3).trans rfl; have z2_0 : w38.cell? ⟨w2.heap.size, 0, none⟩ = some (.int .i64 2) := (blk_cell BK2.out 0).trans rfl; have z2_1 : w38.cell? ⟨w2.heap.size, 1, none⟩ = some (.func (Fn.func 97) #[] #[.pointer (some ⟨p2, 0, none⟩)]) := (blk_cell BK2.out 1).trans rfl; have z2_2 : w38.cell? ⟨w2.heap.size, 2, none⟩ = some (.func (Fn.func 98) #[] #[.pointer (some ⟨p2, 0, none⟩)]) := (blk_cell BK2.out 2).trans rfl; have z2_3 : w38.cell? ⟨w2.heap.size, 3, none⟩ = some (.func (Fn.func 99) #[] #[.pointer (some ⟨p2, 0, none⟩), .pointer (some ⟨q2, 0, none⟩)]) := (blk_cell BK2.out 3).trans rfl) | ((with_reducible refine gate_dst (N := 41) rfl ?_); refine val_event ?hg (N := 41) ?hd (v := fun g => .slice (some ⟨g, 0, none⟩) 2 2) (cs := #[.int .i64 1, .func (Fn.func 97) #[] #[.pointer (some ⟨p1, 0, none⟩)], .func (Fn.func 98) #[] #[.pointer (some ⟨p1, 0, none⟩)], .func (Fn.func 99) #[] #[.pointer (some ⟨p1, 0, none⟩), .pointer (some ⟨q1, 0, none⟩)], .int .i64 2, .func (Fn.func 97) #[] #[.pointer (some ⟨p2, 0, none⟩)], .func (Fn.func 98) #[] #[.pointer (some ⟨p2, 0, none⟩)], .func (Fn.func 99) #[] #[.pointer (some ⟨p2, 0, none⟩), .pointer (some ⟨q2, 0, none⟩)]]) (t := 69) ?hr ?_; (case hd => rfl); (case hg => rfl); (case hr => first | (go_simp; done) | (go_simp; rfl)); intro g41 hg w41 hbox hb; clear z1_0 z1_1 z1_2 z1_3 z2_0 z2_1 z2_2 z2_3; have HB_ := Aside0.mk (HB.out.trans (hb.mono HB.out.size)); have V1_ := Aside0.mk (V1.out.below hb); have BK1_ := Aside0.mk (blk_below BK1.out hb); have V2_ := Aside0.mk (V2.out.below hb); have BK2_ := Aside0.mk (blk_below BK2.out hb); have V3_ := Aside0.mk (V3.out.below hb); have BK3_ := Aside0.mk (blk_below BK3.out hb); have V4_ := Aside0.mk (V4.out.below hb); have BK4_ := Aside0.mk (blk_below BK4.out hb); have V5_ := Aside0.mk (V5.out.below hb); have BK5_ := Aside0.mk (blk_below BK5.out hb); have V6_ := Aside0.mk (V6.out.below hb); have BK6_ := Aside0.mk (blk_below BK6.out hb); have V7_ := Aside0.mk (V7.out.below hb); have BK7_ := Aside0.mk (blk_below BK7.out hb); have V8_ := Aside0.mk (V8.out.below hb); have BK8_ := Aside0.mk (blk_below BK8.out hb); have V9_ := Aside0.mk (V9.out.below hb); have BK9_ := Aside0.mk (blk_below BK9.out hb); have V10_ := Aside0.mk (V10.out.below hb); have BK10_ := Aside0.mk (blk_below BK10.out hb); have V11_ := Aside0.mk (V11.out.below hb); have BK11_ := Aside0.mk (blk_below BK11.out hb); have V12_ := Aside0.mk (V12.out.below hb); have BK12_ := Aside0.mk (blk_below BK12.out hb); have BK27_ := Aside0.mk (blk_below BK27.out hb); have BK30_ := Aside0.mk (blk_below BK30.out hb); have BK34_ := Aside0.mk (blk_below BK34.out hb); have BK38_ := Aside0.mk (blk_below BK38.out hb); clear HB V1 BK1 V2 BK2 V3 BK3 V4 BK4 V5 BK5 V6 BK6 V7 BK7 V8 BK8 V9 BK9 V10 BK10 V11 BK11 V12 BK12 BK27 BK30 BK34 BK38; have HB := HB_; have V1 := V1_; have BK1 := BK1_; have V2 := V2_; have BK2 := BK2_; have V3 := V3_; have BK3 := BK3_; have V4 := V4_; have BK4 := BK4_; have V5 := V5_; have BK5 := BK5_; have V6 := V6_; have BK6 := BK6_; have V7 := V7_; have BK7 := BK7_; have V8 := V8_; have BK8 := BK8_; have V9 := V9_; have BK9 := BK9_; have V10 := V10_; have BK10 := BK10_; have V11 := V11_; have BK11 := BK11_; have V12 := V12_; have BK12 := BK12_; have BK27 := BK27_; have BK30 := BK30_; have BK34 := BK34_; have BK38 := BK38_; clear HB_ V1_ BK1_ V2_ BK2_ V3_ BK3_ V4_ BK4_ V5_ BK5_ V6_ BK6_ V7_ BK7_ V8_ BK8_ V9_ BK9_ V10_ BK10_ V11_ BK11_ V12_ BK12_ BK27_ BK30_ BK34_ BK38_; have BK41 := Aside0.mk hbox; clear hg hbox hb; have z1_0 : w41.cell? ⟨w1.heap.size, 0, none⟩ = some (.int .i64 1) := (blk_cell BK1.out 0).trans rfl; have z1_1 : w41.cell? ⟨w1.heap.size, 1, none⟩ = some (.func (Fn.func 97) #[] #[.pointer (some ⟨p1, 0, none⟩)]) := (blk_cell BK1.out 1).trans rfl; have z1_2 : w41.cell? ⟨w1.heap.size, 2, none⟩ = some (.func (Fn.func 98) #[] #[.pointer (some ⟨p1, 0, none⟩)]) := (blk_cell BK1.out 2).trans rfl; have z1_3 : w41.cell? ⟨w1.heap.size, 3, none⟩ = some (.func (Fn.func 99) #[] #[.pointer (some ⟨p1, 0, none⟩), .pointer (some ⟨q1, 0, none⟩)]) := (blk_cell BK1.out 3).trans rfl; have z5_0 : w41.cell? ⟨w5.heap.size, 0, none⟩ = some (.int .i64 8) := (blk_cell BK5.out 0).trans rfl; have z5_1 : w41.cell? ⟨w5.heap.size, 1, none⟩ = some (.func (Fn.func 102) #[] #[.pointer (some ⟨q5, 0, none⟩), .pointer (some ⟨s5, 0, none⟩), .pointer (some ⟨r5, 0, none⟩)]) := (blk_cell BK5.out 1).trans rfl; have z5_2 : w41.cell? ⟨w5.heap.size, 2, none⟩ = some (.func (Fn.func 100) #[] #[]) := (blk_cell BK5.out 2).trans rfl; have z5_3 : w41.cell? ⟨w5.heap.size, 3, none⟩ = some (.func (Fn.func 101) #[] #[.pointer (some ⟨p5, 0, none⟩)]) := (blk_cell BK5.out 3).trans rfl) | ((with_reducible refine gate_dst (N := 44) rfl ?_); refine val_event ?hg (N := 44) ?hd (v := fun g => .slice (some ⟨g, 0, none⟩) 2 2) (cs := #[.int .i64 1, .func (Fn.func 97) #[] #[.pointer (some ⟨p1, 0, none⟩)], .func (Fn.func 98) #[] #[.pointer (some ⟨p1, 0, none⟩)], .func (Fn.func 99) #[] #[.pointer (some ⟨p1, 0, none⟩), .pointer (some ⟨q1, 0, none⟩)], .int .i64 8, .func (Fn.func 102) #[] #[.pointer (some ⟨q5, 0, none⟩), .pointer (some ⟨s5, 0, none⟩), .pointer (some ⟨r5, 0, none⟩)], .func (Fn.func 100) #[] #[], .func (Fn.func 101) #[] #[.pointer (some ⟨p5, 0, none⟩)]]) (t := 69) ?hr ?_; (case hd => rfl); (case hg => rfl); (case hr => first | (go_simp; done) | (go_simp; rfl)); intro g44 hg w44 hbox hb; clear z1_0 z1_1 z1_2 z1_3 z5_0 z5_1 z5_2 z5_3; have HB_ := Aside0.mk (HB.out.trans (hb.mono HB.out.size)); have V1_ := Aside0.mk (V1.out.below hb); have BK1_ := Aside0.mk (blk_below BK1.out hb); have V2_ := Aside0.mk (V2.out.below hb); have BK2_ := Aside0.mk (blk_below BK2.out hb); have V3_ := Aside0.mk (V3.out.below hb); have BK3_ := Aside0.mk (blk_below BK3.out hb); have V4_ := Aside0.mk (V4.out.below hb); have BK4_ := Aside0.mk (blk_below BK4.out hb); have V5_ := Aside0.mk (V5.out.below hb); have BK5_ := Aside0.mk (blk_below BK5.out hb); have V6_ := Aside0.mk (V6.out.below hb); have BK6_ := Aside0.mk (blk_below BK6.out hb); have V7_ := Aside0.mk (V7.out.below hb); have BK7_ := Aside0.mk (blk_below BK7.out hb); have V8_ := Aside0.mk (V8.out.below hb); have BK8_ := Aside0.mk (blk_below BK8.out hb); have V9_ := Aside0.mk (V9.out.below hb); have BK9_ := Aside0.mk (blk_below BK9.out hb); have V10_ := Aside0.mk (V10.out.below hb); have BK10_ := Aside0.mk (blk_below BK10.out hb); have V11_ := Aside0.mk (V11.out.below hb); have BK11_ := Aside0.mk (blk_below BK11.out hb); have V12_ := Aside0.mk (V12.out.below hb); have BK12_ := Aside0.mk (blk_below BK12.out hb); have BK27_ := Aside0.mk (blk_below BK27.out hb); have BK30_ := Aside0.mk (blk_below BK30.out hb); have BK34_ := Aside0.mk (blk_below BK34.out hb); have BK38_ := Aside0.mk (blk_below BK38.out hb); have BK41_ := Aside0.mk (blk_below BK41.out hb); clear HB V1 BK1 V2 BK2 V3 BK3 V4 BK4 V5 BK5 V6 BK6 V7 BK7 V8 BK8 V9 BK9 V10 BK10 V11 BK11 V12 BK12 BK27 BK30 BK34 BK38 BK41; have HB := HB_; have V1 := V1_; have BK1 := BK1_; have V2 := V2_; have BK2 := BK2_; have V3 := V3_; have BK3 := BK3_; have V4 := V4_; have BK4 := BK4_; have V5 := V5_; have BK5 := BK5_; have V6 := V6_; have BK6 := BK6_; have V7 := V7_; have BK7 := BK7_; have V8 := V8_; have BK8 := BK8_; have V9 := V9_; have BK9 := BK9_; have V10 := V10_; have BK10 := BK10_; have V11 := V11_; have BK11 := BK11_; have V12 := V12_; have BK12 := BK12_; have BK27 := BK27_; have BK30 := BK30_; have BK34 := BK34_; have BK38 := BK38_; have BK41 := BK41_; clear HB_ V1_ BK1_ V2_ BK2_ V3_ BK3_ V4_ BK4_ V5_ BK5_ V6_ BK6_ V7_ BK7_ V8_ BK8_ V9_ BK9_ V10_ BK10_ V11_ BK11_ V12_ BK12_ BK27_ BK30_ BK34_ BK38_ BK41_; have BK44 := Aside0.mk hbox; clear hg hbox hb; have z1_0 : w44.cell? ⟨w1.heap.size, 0, none⟩ = some (.int .i64 1) := (blk_cell BK1.out 0).trans rfl; have z1_1 : w44.cell? ⟨w1.heap.size, 1, none⟩ = some (.func (Fn.func 97) #[] #[.pointer (some ⟨p1, 0, none⟩)]) := (blk_cell BK1.out 1).trans rfl; have z1_2 : w44.cell? ⟨w1.heap.size, 2, none⟩ = some (.func (Fn.func 98) #[] #[.pointer (some ⟨p1, 0, none⟩)]) := (blk_cell BK1.out 2).trans rfl; have z1_3 : w44.cell? ⟨w1.heap.size, 3, none⟩ = some (.func (Fn.func 99) #[] #[.pointer (some ⟨p1, 0, none⟩), .pointer (some ⟨q1, 0, none⟩)]) := (blk_cell BK1.out 3).trans rfl; have z2_0 : w44.cell? ⟨w2.heap.size, 0, none⟩ = some (.int .i64 2) := (blk_cell BK2.out 0).trans rfl; have z2_1 : w44.cell? ⟨w2.heap.size, 1, none⟩ = some (.func (Fn.func 97) #[] #[.pointer (some ⟨p2, 0, none⟩)]) := (blk_cell BK2.out 1).trans rfl; have z2_2 : w44.cell? ⟨w2.heap.size, 2, none⟩ = some (.func (Fn.func 98) #[] #[.pointer (some ⟨p2, 0, none⟩)]) := (blk_cell BK2.out 2).trans rfl; have z2_3 : w44.cell? ⟨w2.heap.size, 3, none⟩ = some (.func (Fn.func 99) #[] #[.pointer (some ⟨p2, 0, none⟩), .pointer (some ⟨q2, 0, none⟩)]) := (blk_cell BK2.out 3).trans rfl; have z6_0 : w44.cell? ⟨w6.heap.size, 0, none⟩ = some (.int .i64 8) := (blk_cell BK6.out 0).trans rfl; have z6_1 : w44.cell? ⟨w6.heap.size, 1, none⟩ = some (.func (Fn.func 102) #[] #[.pointer (some ⟨q6, 0, none⟩), .pointer (some ⟨s6, 0, none⟩), .pointer (some ⟨r6, 0, none⟩)]) := (blk_cell BK6.out 1).trans rfl; have z6_2 : w44.cell? ⟨w6.heap.size, 2, none⟩ = some (.func (Fn.func 100) #[] #[]) := (blk_cell BK6.out 2).trans rfl; have z6_3 : w44.cell? ⟨w6.heap.size, 3, none⟩ = some (.func (Fn.func 101) #[] #[.pointer (some ⟨p6, 0, none⟩)]) := (blk_cell BK6.out 3).trans rfl) | ((with_reducible refine gate_dst (N := 48) rfl ?_); refine val_event ?hg (N := 48) ?hd (v := fun g => .slice (some ⟨g, 0, none⟩) 3 3) (cs := #[.int .i64 1, .func (Fn.func 97) #[] #[.pointer (some ⟨p1, 0, none⟩)], .func (Fn.func 98) #[] #[.pointer (some ⟨p1, 0, none⟩)], .func (Fn.func 99) #[] #[.pointer (some ⟨p1, 0, none⟩), .pointer (some ⟨q1, 0, none⟩)], .int .i64 2, .func (Fn.func 97) #[] #[.pointer (some ⟨p2, 0, none⟩)], .func (Fn.func 98) #[] #[.pointer (some ⟨p2, 0, none⟩)], .func (Fn.func 99) #[] #[.pointer (some ⟨p2, 0, none⟩), .pointer (some ⟨q2, 0, none⟩)], .int .i64 8, .func (Fn.func 102) #[] #[.pointer (some ⟨q6, 0, none⟩), .pointer (some ⟨s6, 0, none⟩), .pointer (some ⟨r6, 0, none⟩)], .func (Fn.func 100) #[] #[], .func (Fn.func 101) #[] #[.pointer (some ⟨p6, 0, none⟩)]]) (t := 69) ?hr ?_; (case hd => rfl); (case hg => rfl); (case hr => first | (go_simp; done) | (go_simp; rfl)); intro g48 hg w48 hbox hb; clear z1_0 z1_1 z1_2 z1_3 z2_0 z2_1 z2_2 z2_3 z6_0 z6_1 z6_2 z6_3; have HB_ := Aside0.mk (HB.out.trans (hb.mono HB.out.size)); have V1_ := Aside0.mk (V1.out.below hb); have BK1_ := Aside0.mk (blk_below BK1.out hb); have V2_ := Aside0.mk (V2.out.below hb); have BK2_ := Aside0.mk (blk_below BK2.out hb); have V3_ := Aside0.mk (V3.out.below hb); have BK3_ := Aside0.mk (blk_below BK3.out hb); have V4_ := Aside0.mk (V4.out.below hb); have BK4_ := Aside0.mk (blk_below BK4.out hb); have V5_ := Aside0.mk (V5.out.below hb); have BK5_ := Aside0.mk (blk_below BK5.out hb); have V6_ := Aside0.mk (V6.out.below hb); have BK6_ := Aside0.mk (blk_below BK6.out hb); have V7_ := Aside0.mk (V7.out.below hb); have BK7_ := Aside0.mk (blk_below BK7.out hb); have V8_ := Aside0.mk (V8.out.below hb); have BK8_ := Aside0.mk (blk_below BK8.out hb); have V9_ := Aside0.mk (V9.out.below hb); have BK9_ := Aside0.mk (blk_below BK9.out hb); have V10_ := Aside0.mk (V10.out.below hb); have BK10_ := Aside0.mk (blk_below BK10.out hb); have V11_ := Aside0.mk (V11.out.below hb); have BK11_ := Aside0.mk (blk_below BK11.out hb); have V12_ := Aside0.mk (V12.out.below hb); have BK12_ := Aside0.mk (blk_below BK12.out hb); have BK27_ := Aside0.mk (blk_below BK27.out hb); have BK30_ := Aside0.mk (blk_below BK30.out hb); have BK34_ := Aside0.mk (blk_below BK34.out hb); have BK38_ := Aside0.mk (blk_below BK38.out hb); have BK41_ := Aside0.mk (blk_below BK41.out hb); have BK44_ := Aside0.mk (blk_below BK44.out hb); clear HB V1 BK1 V2 BK2 V3 BK3 V4 BK4 V5 BK5 V6 BK6 V7 BK7 V8 BK8 V9 BK9 V10 BK10 V11 BK11 V12 BK12 BK27 BK30 BK34 BK38 BK41 BK44; have HB := HB_; have V1 := V1_; have BK1 := BK1_; have V2 := V2_; have BK2 := BK2_; have V3 := V3_; have BK3 := BK3_; have V4 := V4_; have BK4 := BK4_; have V5 := V5_; have BK5 := BK5_; have V6 := V6_; have BK6 := BK6_; have V7 := V7_; have BK7 := BK7_; have V8 := V8_; have BK8 := BK8_; have V9 := V9_; have BK9 := BK9_; have V10 := V10_; have BK10 := BK10_; have V11 := V11_; have BK11 := BK11_; have V12 := V12_; have BK12 := BK12_; have BK27 := BK27_; have BK30 := BK30_; have BK34 := BK34_; have BK38 := BK38_; have BK41 := BK41_; have BK44 := BK44_; clear HB_ V1_ BK1_ V2_ BK2_ V3_ BK3_ V4_ BK4_ V5_ BK5_ V6_ BK6_ V7_ BK7_ V8_ BK8_ V9_ BK9_ V10_ BK10_ V11_ BK11_ V12_ BK12_ BK27_ BK30_ BK34_ BK38_ BK41_ BK44_; have BK48 := Aside0.mk hbox; clear hg hbox hb; have z1_0 : w48.cell? ⟨w1.heap.size, 0, none⟩ = some (.int .i64 1) := (blk_cell BK1.out 0).trans rfl; have z1_1 : w48.cell? ⟨w1.heap.size, 1, none⟩ = some (.func (Fn.func 97) #[] #[.pointer (some ⟨p1, 0, none⟩)]) := (blk_cell BK1.out 1).trans rfl; have z1_2 : w48.cell? ⟨w1.heap.size, 2, none⟩ = some (.func (Fn.func 98) #[] #[.pointer (some ⟨p1, 0, none⟩)]) := (blk_cell BK1.out 2).trans rfl; have z1_3 : w48.cell? ⟨w1.heap.size, 3, none⟩ = some (.func (Fn.func 99) #[] #[.pointer (some ⟨p1, 0, none⟩), .pointer (some ⟨q1, 0, none⟩)]) := (blk_cell BK1.out 3).trans rfl; have z2_0 : w48.cell? ⟨w2.heap.size, 0, none⟩ = some (.int .i64 2) := (blk_cell BK2.out 0).trans rfl; have z2_1 : w48.cell? ⟨w2.heap.size, 1, none⟩ = some (.func (Fn.func 97) #[] #[.pointer (some ⟨p2, 0, none⟩)]) := (blk_cell BK2.out 1).trans rfl; have z2_2 : w48.cell? ⟨w2.heap.size, 2, none⟩ = some (.func (Fn.func 98) #[] #[.pointer (some ⟨p2, 0, none⟩)]) := (blk_cell BK2.out 2).trans rfl; have z2_3 : w48.cell? ⟨w2.heap.size, 3, none⟩ = some (.func (Fn.func 99) #[] #[.pointer (some ⟨p2, 0, none⟩), .pointer (some ⟨q2, 0, none⟩)]) := (blk_cell BK2.out 3).trans rfl; have z6_0 : w48.cell? ⟨w6.heap.size, 0, none⟩ = some (.int .i64 8) := (blk_cell BK6.out 0).trans rfl; have z6_1 : w48.cell? ⟨w6.heap.size, 1, none⟩ = some (.func (Fn.func 102) #[] #[.pointer (some ⟨q6, 0, none⟩), .pointer (some ⟨s6, 0, none⟩), .pointer (some ⟨r6, 0, none⟩)]) := (blk_cell BK6.out 1).trans rfl; have z6_2 : w48.cell? ⟨w6.heap.size, 2, none⟩ = some (.func (Fn.func 100) #[] #[]) := (blk_cell BK6.out 2).trans rfl; have z6_3 : w48.cell? ⟨w6.heap.size, 3, none⟩ = some (.func (Fn.func 101) #[] #[.pointer (some ⟨p6, 0, none⟩)]) := (blk_cell BK6.out 3).trans rfl) | ((with_reducible refine gate_dst (N := 52) rfl ?_); refine val_event ?hg (N := 52) ?hd (v := fun g => .slice (some ⟨g, 0, none⟩) 3 3) (cs := #[.int .i64 1, .func (Fn.func 97) #[] #[.pointer (some ⟨p1, 0, none⟩)], .func (Fn.func 98) #[] #[.pointer (some ⟨p1, 0, none⟩)], .func (Fn.func 99) #[] #[.pointer (some ⟨p1, 0, none⟩), .pointer (some ⟨q1, 0, none⟩)], .int .i64 2, .func (Fn.func 97) #[] #[.pointer (some ⟨p2, 0, none⟩)], .func (Fn.func 98) #[] #[.pointer (some ⟨p2, 0, none⟩)], .func (Fn.func 99) #[] #[.pointer (some ⟨p2, 0, none⟩), .pointer (some ⟨q2, 0, none⟩)], .int .i64 8, .func (Fn.func 102) #[] #[.pointer (some ⟨q6, 0, none⟩), .pointer (some ⟨s6, 0, none⟩), .pointer (some ⟨r6, 0, none⟩)], .func (Fn.func 100) #[] #[], .func (Fn.func 101) #[] #[.pointer (some ⟨p6, 0, none⟩)]]) (t := 69) ?hr ?_; (case hd => rfl); (case hg => rfl); (case hr => first | (go_simp; done) | (go_simp; rfl)); intro g52 hg w52 hbox hb; clear z1_0 z1_1 z1_2 z1_3 z2_0 z2_1 z2_2 z2_3 z6_0 z6_1 z6_2 z6_3; have HB_ := Aside0.mk (HB.out.trans (hb.mono HB.out.size)); have V1_ := Aside0.mk (V1.out.below hb); have BK1_ := Aside0.mk (blk_below BK1.out hb); have V2_ := Aside0.mk (V2.out.below hb); have BK2_ := Aside0.mk (blk_below BK2.out hb); have V3_ := Aside0.mk (V3.out.below hb); have BK3_ := Aside0.mk (blk_below BK3.out hb); have V4_ := Aside0.mk (V4.out.below hb); have BK4_ := Aside0.mk (blk_below BK4.out hb); have V5_ := Aside0.mk (V5.out.below hb); have BK5_ := Aside0.mk (blk_below BK5.out hb); have V6_ := Aside0.mk (V6.out.below hb); have BK6_ := Aside0.mk (blk_below BK6.out hb); have V7_ := Aside0.mk (V7.out.below hb); have BK7_ := Aside0.mk (blk_below BK7.out hb); have V8_ := Aside0.mk (V8.out.below hb); have BK8_ := Aside0.mk (blk_below BK8.out hb); have V9_ := Aside0.mk (V9.out.below hb); have BK9_ := Aside0.mk (blk_below BK9.out hb); have V10_ := Aside0.mk (V10.out.below hb); have BK10_ := Aside0.mk (blk_below BK10.out hb); have V11_ := Aside0.mk (V11.out.below hb); have BK11_ := Aside0.mk (blk_below BK11.out hb); have V12_ := Aside0.mk (V12.out.below hb); have BK12_ := Aside0.mk (blk_below BK12.out hb); have BK27_ := Aside0.mk (blk_below BK27.out hb); have BK30_ := Aside0.mk (blk_below BK30.out hb); have BK34_ := Aside0.mk (blk_below BK34.out hb); have BK38_ := Aside0.mk (blk_below BK38.out hb); have BK41_ := Aside0.mk (blk_below BK41.out hb); have BK44_ := Aside0.mk (blk_below BK44.out hb); have BK48_ := Aside0.mk (blk_below BK48.out hb); clear HB V1 BK1 V2 BK2 V3 BK3 V4 BK4 V5 BK5 V6 BK6 V7 BK7 V8 BK8 V9 BK9 V10 BK10 V11 BK11 V12 BK12 BK27 BK30 BK34 BK38 BK41 BK44 BK48; have HB := HB_; have V1 := V1_; have BK1 := BK1_; have V2 := V2_; have BK2 := BK2_; have V3 := V3_; have BK3 := BK3_; have V4 := V4_; have BK4 := BK4_; have V5 := V5_; have BK5 := BK5_; have V6 := V6_; have BK6 := BK6_; have V7 := V7_; have BK7 := BK7_; have V8 := V8_; have BK8 := BK8_; have V9 := V9_; have BK9 := BK9_; have V10 := V10_; have BK10 := BK10_; have V11 := V11_; have BK11 := BK11_; have V12 := V12_; have BK12 := BK12_; have BK27 := BK27_; have BK30 := BK30_; have BK34 := BK34_; have BK38 := BK38_; have BK41 := BK41_; have BK44 := BK44_; have BK48 := BK48_; clear HB_ V1_ BK1_ V2_ BK2_ V3_ BK3_ V4_ BK4_ V5_ BK5_ V6_ BK6_ V7_ BK7_ V8_ BK8_ V9_ BK9_ V10_ BK10_ V11_ BK11_ V12_ BK12_ BK27_ BK30_ BK34_ BK38_ BK41_ BK44_ BK48_; have BK52 := Aside0.mk hbox; clear hg hbox hb; have z1_0 : w52.cell? ⟨w1.heap.size, 0, none⟩ = some (.int .i64 1) := (blk_cell BK1.out 0).trans rfl; have z1_1 : w52.cell? ⟨w1.heap.size, 1, none⟩ = some (.func (Fn.func 97) #[] #[.pointer (some ⟨p1, 0, none⟩)]) := (blk_cell BK1.out 1).trans rfl; have z1_2 : w52.cell? ⟨w1.heap.size, 2, none⟩ = some (.func (Fn.func 98) #[] #[.pointer (some ⟨p1, 0, none⟩)]) := (blk_cell BK1.out 2).trans rfl; have z1_3 : w52.cell? ⟨w1.heap.size, 3, none⟩ = some (.func (Fn.func 99) #[] #[.pointer (some ⟨p1, 0, none⟩), .pointer (some ⟨q1, 0, none⟩)]) := (blk_cell BK1.out 3).trans rfl; have z7_0 : w52.cell? ⟨w7.heap.size, 0, none⟩ = some (.int .i64 8) := (blk_cell BK7.out 0).trans rfl; have z7_1 : w52.cell? ⟨w7.heap.size, 1, none⟩ = some (.func (Fn.func 102) #[] #[.pointer (some ⟨q7, 0, none⟩), .pointer (some ⟨s7, 0, none⟩), .pointer (some ⟨r7, 0, none⟩)]) := (blk_cell BK7.out 1).trans rfl; have z7_2 : w52.cell? ⟨w7.heap.size, 2, none⟩ = some (.func (Fn.func 100) #[] #[]) := (blk_cell BK7.out 2).trans rfl; have z7_3 : w52.cell? ⟨w7.heap.size, 3, none⟩ = some (.func (Fn.func 101) #[] #[.pointer (some ⟨p7, 0, none⟩)]) := (blk_cell BK7.out 3).trans rfl) | ((with_reducible refine gate_dst (N := 55) rfl ?_); refine val_event ?hg (N := 55) ?hd (v := fun g => .slice (some ⟨g, 0, none⟩) 2 2) (cs := #[.int .i64 1, .func (Fn.func 97) #[] #[.pointer (some ⟨p1, 0, none⟩)], .func (Fn.func 98) #[] #[.pointer (some ⟨p1, 0, none⟩)], .func (Fn.func 99) #[] #[.pointer (some ⟨p1, 0, none⟩), .pointer (some ⟨q1, 0, none⟩)], .int .i64 8, .func (Fn.func 102) #[] #[.pointer (some ⟨q7, 0, none⟩), .pointer (some ⟨s7, 0, none⟩), .pointer (some ⟨r7, 0, none⟩)], .func (Fn.func 100) #[] #[], .func (Fn.func 101) #[] #[.pointer (some ⟨p7, 0, none⟩)]]) (t := 69) ?hr ?_; (case hd => rfl); (case hg => rfl); (case hr => first | (go_simp; done) | (go_simp; rfl)); intro g55 hg w55 hbox hb; clear z1_0 z1_1 z1_2 z1_3 z7_0 z7_1 z7_2 z7_3; have HB_ := Aside0.mk (HB.out.trans (hb.mono HB.out.size)); have V1_ := Aside0.mk (V1.out.below hb); have BK1_ := Aside0.mk (blk_below BK1.out hb); have V2_ := Aside0.mk (V2.out.below hb); have BK2_ := Aside0.mk (blk_below BK2.out hb); have V3_ := Aside0.mk (V3.out.below hb); have BK3_ := Aside0.mk (blk_below BK3.out hb); have V4_ := Aside0.mk (V4.out.below hb); have BK4_ := Aside0.mk (blk_below BK4.out hb); have V5_ := Aside0.mk (V5.out.below hb); have BK5_ := Aside0.mk (blk_below BK5.out hb); have V6_ := Aside0.mk (V6.out.below hb); have BK6_ := Aside0.mk (blk_below BK6.out hb); have V7_ := Aside0.mk (V7.out.below hb); have BK7_ := Aside0.mk (blk_below BK7.out hb); have V8_ := Aside0.mk (V8.out.below hb); have BK8_ := Aside0.mk (blk_below BK8.out hb); have V9_ := Aside0.mk (V9.out.below hb); have BK9_ := Aside0.mk (blk_below BK9.out hb); have V10_ := Aside0.mk (V10.out.below hb); have BK10_ := Aside0.mk (blk_below BK10.out hb); have V11_ := Aside0.mk (V11.out.below hb); have BK11_ := Aside0.mk (blk_below BK11.out hb); have V12_ := Aside0.mk (V12.out.below hb); have BK12_ := Aside0.mk (blk_below BK12.out hb); have BK27_ := Aside0.mk (blk_below BK27.out hb); have BK30_ := Aside0.mk (blk_below BK30.out hb); have BK34_ := Aside0.mk (blk_below BK34.out hb); have BK38_ := Aside0.mk (blk_below BK38.out hb); have BK41_ := Aside0.mk (blk_below BK41.out hb); have BK44_ := Aside0.mk (blk_below BK44.out hb); have BK48_ := Aside0.mk (blk_below BK48.out hb); have BK52_ := Aside0.mk (blk_below BK52.out hb); clear HB V1 BK1 V2 BK2 V3 BK3 V4 BK4 V5 BK5 V6 BK6 V7 BK7 V8 BK8 V9 BK9 V10 BK10 V11 BK11 V12 BK12 BK27 BK30 BK34 BK38 BK41 BK44 BK48 BK52; have HB := HB_; have V1 := V1_; have BK1 := BK1_; have V2 := V2_; have BK2 := BK2_; have V3 := V3_; have BK3 := BK3_; have V4 := V4_; have BK4 := BK4_; have V5 := V5_; have BK5 := BK5_; have V6 := V6_; have BK6 := BK6_; have V7 := V7_; have BK7 := BK7_; have V8 := V8_; have BK8 := BK8_; have V9 := V9_; have BK9 := BK9_; have V10 := V10_; have BK10 := BK10_; have V11 := V11_; have BK11 := BK11_; have V12 := V12_; have BK12 := BK12_; have BK27 := BK27_; have BK30 := BK30_; have BK34 := BK34_; have BK38 := BK38_; have BK41 := BK41_; have BK44 := BK44_; have BK48 := BK48_; have BK52 := BK52_; clear HB_ V1_ BK1_ V2_ BK2_ V3_ BK3_ V4_ BK4_ V5_ BK5_ V6_ BK6_ V7_ BK7_ V8_ BK8_ V9_ BK9_ V10_ BK10_ V11_ BK11_ V12_ BK12_ BK27_ BK30_ BK34_ BK38_ BK41_ BK44_ BK48_ BK52_; have BK55 := Aside0.mk hbox; clear hg hbox hb; have z2_0 : w55.cell? ⟨w2.heap.size, 0, none⟩ = some (.int .i64 2) := (blk_cell BK2.out 0).trans rfl; have z2_1 : w55.cell? ⟨w2.heap.size, 1, none⟩ = some (.func (Fn.func 97) #[] #[.pointer (some ⟨p2, 0, none⟩)]) := (blk_cell BK2.out 1).trans rfl; have z2_2 : w55.cell? ⟨w2.heap.size, 2, none⟩ = some (.func (Fn.func 98) #[] #[.pointer (some ⟨p2, 0, none⟩)]) := (blk_cell BK2.out 2).trans rfl; have z2_3 : w55.cell? ⟨w2.heap.size, 3, none⟩ = some (.func (Fn.func 99) #[] #[.pointer (some ⟨p2, 0, none⟩), .pointer (some ⟨q2, 0, none⟩)]) := (blk_cell BK2.out 3).trans rfl; have z7_0 : w55.cell? ⟨w7.heap.size, 0, none⟩ = some (.int .i64 8) := (blk_cell BK7.out 0).trans rfl; have z7_1 : w55.cell? ⟨w7.heap.size, 1, none⟩ = some (.func (Fn.func 102) #[] #[.pointer (some ⟨q7, 0, none⟩), .pointer (some ⟨s7, 0, none⟩), .pointer (some ⟨r7, 0, none⟩)]) := (blk_cell BK7.out 1).trans rfl; have z7_2 : w55.cell? ⟨w7.heap.size, 2, none⟩ = some (.func (Fn.func 100) #[] #[]) := (blk_cell BK7.out 2).trans rfl; have z7_3 : w55.cell? ⟨w7.heap.size, 3, none⟩ = some (.func (Fn.func 101) #[] #[.pointer (some ⟨p7, 0, none⟩)]) := (blk_cell BK7.out 3).trans rfl) | ((with_reducible refine gate_dst (N := 58) rfl ?_); refine val_event ?hg (N := 58) ?hd (v := fun g => .slice (some ⟨g, 0, none⟩) 2 2) (cs := #[.int .i64 2, .func (Fn.func 97) #[] #[.pointer (some ⟨p2, 0, none⟩)], .func (Fn.func 98) #[] #[.pointer (some ⟨p2, 0, none⟩)], .func (Fn.func 99) #[] #[.pointer (some ⟨p2, 0, none⟩), .pointer (some ⟨q2, 0, none⟩)], .int .i64 8, .func (Fn.func 102) #[] #[.pointer (some ⟨q7, 0, none⟩), .pointer (some ⟨s7, 0, none⟩), .pointer (some ⟨r7, 0, none⟩)], .func (Fn.func 100) #[] #[], .func (Fn.func 101) #[] #[.pointer (some ⟨p7, 0, none⟩)]]) (t := 69) ?hr ?_; (case hd => rfl); (case hg => rfl); (case hr => first | (go_simp; done) | (go_simp; rfl)); intro g58 hg w58 hbox hb; clear z2_0 z2_1 z2_2 z2_3 z7_0 z7_1 z7_2 z7_3; have HB_ := Aside0.mk (HB.out.trans (hb.mono HB.out.size)); have V1_ := Aside0.mk (V1.out.below hb); have BK1_ := Aside0.mk (blk_below BK1.out hb); have V2_ := Aside0.mk (V2.out.below hb); have BK2_ := Aside0.mk (blk_below BK2.out hb); have V3_ := Aside0.mk (V3.out.below hb); have BK3_ := Aside0.mk (blk_below BK3.out hb); have V4_ := Aside0.mk (V4.out.below hb); have BK4_ := Aside0.mk (blk_below BK4.out hb); have V5_ := Aside0.mk (V5.out.below hb); have BK5_ := Aside0.mk (blk_below BK5.out hb); have V6_ := Aside0.mk (V6.out.below hb); have BK6_ := Aside0.mk (blk_below BK6.out hb); have V7_ := Aside0.mk (V7.out.below hb); have BK7_ := Aside0.mk (blk_below BK7.out hb); have V8_ := Aside0.mk (V8.out.below hb); have BK8_ := Aside0.mk (blk_below BK8.out hb); have V9_ := Aside0.mk (V9.out.below hb); have BK9_ := Aside0.mk (blk_below BK9.out hb); have V10_ := Aside0.mk (V10.out.below hb); have BK10_ := Aside0.mk (blk_below BK10.out hb); have V11_ := Aside0.mk (V11.out.below hb); have BK11_ := Aside0.mk (blk_below BK11.out hb); have V12_ := Aside0.mk (V12.out.below hb); have BK12_ := Aside0.mk (blk_below BK12.out hb); have BK27_ := Aside0.mk (blk_below BK27.out hb); have BK30_ := Aside0.mk (blk_below BK30.out hb); have BK34_ := Aside0.mk (blk_below BK34.out hb); have BK38_ := Aside0.mk (blk_below BK38.out hb); have BK41_ := Aside0.mk (blk_below BK41.out hb); have BK44_ := Aside0.mk (blk_below BK44.out hb); have BK48_ := Aside0.mk (blk_below BK48.out hb); have BK52_ := Aside0.mk (blk_below BK52.out hb); have BK55_ := Aside0.mk (blk_below BK55.out hb); clear HB V1 BK1 V2 BK2 V3 BK3 V4 BK4 V5 BK5 V6 BK6 V7 BK7 V8 BK8 V9 BK9 V10 BK10 V11 BK11 V12 BK12 BK27 BK30 BK34 BK38 BK41 BK44 BK48 BK52 BK55; have HB := HB_; have V1 := V1_; have BK1 := BK1_; have V2 := V2_; have BK2 := BK2_; have V3 := V3_; have BK3 := BK3_; have V4 := V4_; have BK4 := BK4_; have V5 := V5_; have BK5 := BK5_; have V6 := V6_; have BK6 := BK6_; have V7 := V7_; have BK7 := BK7_; have V8 := V8_; have BK8 := BK8_; have V9 := V9_; have BK9 := BK9_; have V10 := V10_; have BK10 := BK10_; have V11 := V11_; have BK11 := BK11_; have V12 := V12_; have BK12 := BK12_; have BK27 := BK27_; have BK30 := BK30_; have BK34 := BK34_; have BK38 := BK38_; have BK41 := BK41_; have BK44 := BK44_; have BK48 := BK48_; have BK52 := BK52_; have BK55 := BK55_; clear HB_ V1_ BK1_ V2_ BK2_ V3_ BK3_ V4_ BK4_ V5_ BK5_ V6_ BK6_ V7_ BK7_ V8_ BK8_ V9_ BK9_ V10_ BK10_ V11_ BK11_ V12_ BK12_ BK27_ BK30_ BK34_ BK38_ BK41_ BK44_ BK48_ BK52_ BK55_; have BK58 := Aside0.mk hbox; clear hg hbox hb; have z8_0 : w58.cell? ⟨w8.heap.size, 0, none⟩ = some (.int .i64 8) := (blk_cell BK8.out 0).trans rfl; have z8_1 : w58.cell? ⟨w8.heap.size, 1, none⟩ = some (.func (Fn.func 102) #[] #[.pointer (some ⟨q8, 0, none⟩), .pointer (some ⟨s8, 0, none⟩), .pointer (some ⟨r8, 0, none⟩)]) := (blk_cell BK8.out 1).trans rfl; have z8_2 : w58.cell? ⟨w8.heap.size, 2, none⟩ = some (.func (Fn.func 100) #[] #[]) := (blk_cell BK8.out 2).trans rfl; have z8_3 : w58.cell? ⟨w8.heap.size, 3, none⟩ = some (.func (Fn.func 101) #[] #[.pointer (some ⟨p8, 0, none⟩)]) := (blk_cell BK8.out 3).trans rfl; have z10_0 : w58.cell? ⟨w10.heap.size, 0, none⟩ = some (.int .i64 16) := (blk_cell BK10.out 0).trans rfl; have z10_1 : w58.cell? ⟨w10.heap.size, 1, none⟩ = some (.func (Fn.func 103) #[] #[.pointer (some ⟨p10, 0, none⟩), .pointer (some ⟨q10, 0, none⟩)]) := (blk_cell BK10.out 1).trans rfl; have z10_2 : w58.cell? ⟨w10.heap.size, 2, none⟩ = some (.func (Fn.func 104) #[] #[.pointer (some ⟨p10, 0, none⟩)]) := (blk_cell BK10.out 2).trans rfl; have z10_3 : w58.cell? ⟨w10.heap.size, 3, none⟩ = some (.func (Fn.func 105) #[] #[.pointer (some ⟨q10, 0, none⟩), .pointer (some ⟨p10, 0, none⟩)]) := (blk_cell BK10.out 3).trans rfl; have z11_0 : w58.cell? ⟨w11.heap.size, 0, none⟩ = some (.int .i64 32) := (blk_cell BK11.out 0).trans rfl; have z11_1 : w58.cell? ⟨w11.heap.size, 1, none⟩ = some (.func (Fn.func 103) #[] #[.pointer (some ⟨p11, 0, none⟩), .pointer (some ⟨q11, 0, none⟩)]) := (blk_cell BK11.out 1).trans rfl; have z11_2 : w58.cell? ⟨w11.heap.size, 2, none⟩ = some (.func (Fn.func 104) #[] #[.pointer (some ⟨p11, 0, none⟩)]) := (blk_cell BK11.out 2).trans rfl; have z11_3 : w58.cell? ⟨w11.heap.size, 3, none⟩ = some (.func (Fn.func 105) #[] #[.pointer (some ⟨q11, 0, none⟩), .pointer (some ⟨p11, 0, none⟩)]) := (blk_cell BK11.out 3).trans rfl) | ((with_reducible refine gate_dst (N := 62) rfl ?_); refine val_event ?hg (N := 62) ?hd (v := fun g => .slice (some ⟨g, 0, none⟩) 3 3) (cs := #[.int .i64 8, .func (Fn.func 102) #[] #[.pointer (some ⟨q8, 0, none⟩), .pointer (some ⟨s8, 0, none⟩), .pointer (some ⟨r8, 0, none⟩)], .func (Fn.func 100) #[] #[], .func (Fn.func 101) #[] #[.pointer (some ⟨p8, 0, none⟩)], .int .i64 16, .func (Fn.func 103) #[] #[.pointer (some ⟨p10, 0, none⟩), .pointer (some ⟨q10, 0, none⟩)], .func (Fn.func 104) #[] #[.pointer (some ⟨p10, 0, none⟩)], .func (Fn.func 105) #[] #[.pointer (some ⟨q10, 0, none⟩), .pointer (some ⟨p10, 0, none⟩)], .int .i64 32, .func (Fn.func 103) #[] #[.pointer (some ⟨p11, 0, none⟩), .pointer (some ⟨q11, 0, none⟩)], .func (Fn.func 104) #[] #[.pointer (some ⟨p11, 0, none⟩)], .func (Fn.func 105) #[] #[.pointer (some ⟨q11, 0, none⟩), .pointer (some ⟨p11, 0, none⟩)]]) (t := 69) ?hr ?_; (case hd => rfl); (case hg => rfl); (case hr => first | (go_simp; done) | (go_simp; rfl)); intro g62 hg w62 hbox hb; clear z8_0 z8_1 z8_2 z8_3 z10_0 z10_1 z10_2 z10_3 z11_0 z11_1 z11_2 z11_3; have HB_ := Aside0.mk (HB.out.trans (hb.mono HB.out.size)); have V1_ := Aside0.mk (V1.out.below hb); have BK1_ := Aside0.mk (blk_below BK1.out hb); have V2_ := Aside0.mk (V2.out.below hb); have BK2_ := Aside0.mk (blk_below BK2.out hb); have V3_ := Aside0.mk (V3.out.below hb); have BK3_ := Aside0.mk (blk_below BK3.out hb); have V4_ := Aside0.mk (V4.out.below hb); have BK4_ := Aside0.mk (blk_below BK4.out hb); have V5_ := Aside0.mk (V5.out.below hb); have BK5_ := Aside0.mk (blk_below BK5.out hb); have V6_ := Aside0.mk (V6.out.below hb); have BK6_ := Aside0.mk (blk_below BK6.out hb); have V7_ := Aside0.mk (V7.out.below hb); have BK7_ := Aside0.mk (blk_below BK7.out hb); have V8_ := Aside0.mk (V8.out.below hb); have BK8_ := Aside0.mk (blk_below BK8.out hb); have V9_ := Aside0.mk (V9.out.below hb); have BK9_ := Aside0.mk (blk_below BK9.out hb); have V10_ := Aside0.mk (V10.out.below hb); have BK10_ := Aside0.mk (blk_below BK10.out hb); have V11_ := Aside0.mk (V11.out.below hb); have BK11_ := Aside0.mk (blk_below BK11.out hb); have V12_ := Aside0.mk (V12.out.below hb); have BK12_ := Aside0.mk (blk_below BK12.out hb); have BK27_ := Aside0.mk (blk_below BK27.out hb); have BK30_ := Aside0.mk (blk_below BK30.out hb); have BK34_ := Aside0.mk (blk_below BK34.out hb); have BK38_ := Aside0.mk (blk_below BK38.out hb); have BK41_ := Aside0.mk (blk_below BK41.out hb); have BK44_ := Aside0.mk (blk_below BK44.out hb); have BK48_ := Aside0.mk (blk_below BK48.out hb); have BK52_ := Aside0.mk (blk_below BK52.out hb); have BK55_ := Aside0.mk (blk_below BK55.out hb); have BK58_ := Aside0.mk (blk_below BK58.out hb); clear HB V1 BK1 V2 BK2 V3 BK3 V4 BK4 V5 BK5 V6 BK6 V7 BK7 V8 BK8 V9 BK9 V10 BK10 V11 BK11 V12 BK12 BK27 BK30 BK34 BK38 BK41 BK44 BK48 BK52 BK55 BK58; have HB := HB_; have V1 := V1_; have BK1 := BK1_; have V2 := V2_; have BK2 := BK2_; have V3 := V3_; have BK3 := BK3_; have V4 := V4_; have BK4 := BK4_; have V5 := V5_; have BK5 := BK5_; have V6 := V6_; have BK6 := BK6_; have V7 := V7_; have BK7 := BK7_; have V8 := V8_; have BK8 := BK8_; have V9 := V9_; have BK9 := BK9_; have V10 := V10_; have BK10 := BK10_; have V11 := V11_; have BK11 := BK11_; have V12 := V12_; have BK12 := BK12_; have BK27 := BK27_; have BK30 := BK30_; have BK34 := BK34_; have BK38 := BK38_; have BK41 := BK41_; have BK44 := BK44_; have BK48 := BK48_; have BK52 := BK52_; have BK55 := BK55_; have BK58 := BK58_; clear HB_ V1_ BK1_ V2_ BK2_ V3_ BK3_ V4_ BK4_ V5_ BK5_ V6_ BK6_ V7_ BK7_ V8_ BK8_ V9_ BK9_ V10_ BK10_ V11_ BK11_ V12_ BK12_ BK27_ BK30_ BK34_ BK38_ BK41_ BK44_ BK48_ BK52_ BK55_ BK58_; have BK62 := Aside0.mk hbox; clear hg hbox hb; have z2_0 : w62.cell? ⟨w2.heap.size, 0, none⟩ = some (.int .i64 2) := (blk_cell BK2.out 0).trans rfl; have z2_1 : w62.cell? ⟨w2.heap.size, 1, none⟩ = some (.func (Fn.func 97) #[] #[.pointer (some ⟨p2, 0, none⟩)]) := (blk_cell BK2.out 1).trans rfl; have z2_2 : w62.cell? ⟨w2.heap.size, 2, none⟩ = some (.func (Fn.func 98) #[] #[.pointer (some ⟨p2, 0, none⟩)]) := (blk_cell BK2.out 2).trans rfl; have z2_3 : w62.cell? ⟨w2.heap.size, 3, none⟩ = some (.func (Fn.func 99) #[] #[.pointer (some ⟨p2, 0, none⟩), .pointer (some ⟨q2, 0, none⟩)]) := (blk_cell BK2.out 3).trans rfl) | ((with_reducible refine gate_dst (N := 64) rfl ?_); refine val_event ?hg (N := 64) ?hd (v := fun g => .slice (some ⟨g, 0, none⟩) 1 1) (cs := #[.int .i64 2, .func (Fn.func 97) #[] #[.pointer (some ⟨p2, 0, none⟩)], .func (Fn.func 98) #[] #[.pointer (some ⟨p2, 0, none⟩)], .func (Fn.func 99) #[] #[.pointer (some ⟨p2, 0, none⟩), .pointer (some ⟨q2, 0, none⟩)]]) (t := 69) ?hr ?_; (case hd => rfl); (case hg => rfl); (case hr => first | (go_simp; done) | (go_simp; rfl)); intro g64 hg w64 hbox hb; clear z2_0 z2_1 z2_2 z2_3; have HB_ := Aside0.mk (HB.out.trans (hb.mono HB.out.size)); have V1_ := Aside0.mk (V1.out.below hb); have BK1_ := Aside0.mk (blk_below BK1.out hb); have V2_ := Aside0.mk (V2.out.below hb); have BK2_ := Aside0.mk (blk_below BK2.out hb); have V3_ := Aside0.mk (V3.out.below hb); have BK3_ := Aside0.mk (blk_below BK3.out hb); have V4_ := Aside0.mk (V4.out.below hb); have BK4_ := Aside0.mk (blk_below BK4.out hb); have V5_ := Aside0.mk (V5.out.below hb); have BK5_ := Aside0.mk (blk_below BK5.out hb); have V6_ := Aside0.mk (V6.out.below hb); have BK6_ := Aside0.mk (blk_below BK6.out hb); have V7_ := Aside0.mk (V7.out.below hb); have BK7_ := Aside0.mk (blk_below BK7.out hb); have V8_ := Aside0.mk (V8.out.below hb); have BK8_ := Aside0.mk (blk_below BK8.out hb); have V9_ := Aside0.mk (V9.out.below hb); have BK9_ := Aside0.mk (blk_below BK9.out hb); have V10_ := Aside0.mk (V10.out.below hb); have BK10_ := Aside0.mk (blk_below BK10.out hb); have V11_ := Aside0.mk (V11.out.below hb); have BK11_ := Aside0.mk (blk_below BK11.out hb); have V12_ := Aside0.mk (V12.out.below hb); have BK12_ := Aside0.mk (blk_below BK12.out hb); have BK27_ := Aside0.mk (blk_below BK27.out hb); have BK30_ := Aside0.mk (blk_below BK30.out hb); have BK34_ := Aside0.mk (blk_below BK34.out hb); have BK38_ := Aside0.mk (blk_below BK38.out hb); have BK41_ := Aside0.mk (blk_below BK41.out hb); have BK44_ := Aside0.mk (blk_below BK44.out hb); have BK48_ := Aside0.mk (blk_below BK48.out hb); have BK52_ := Aside0.mk (blk_below BK52.out hb); have BK55_ := Aside0.mk (blk_below BK55.out hb); have BK58_ := Aside0.mk (blk_below BK58.out hb); have BK62_ := Aside0.mk (blk_below BK62.out hb); clear HB V1 BK1 V2 BK2 V3 BK3 V4 BK4 V5 BK5 V6 BK6 V7 BK7 V8 BK8 V9 BK9 V10 BK10 V11 BK11 V12 BK12 BK27 BK30 BK34 BK38 BK41 BK44 BK48 BK52 BK55 BK58 BK62; have HB := HB_; have V1 := V1_; have BK1 := BK1_; have V2 := V2_; have BK2 := BK2_; have V3 := V3_; have BK3 := BK3_; have V4 := V4_; have BK4 := BK4_; have V5 := V5_; have BK5 := BK5_; have V6 := V6_; have BK6 := BK6_; have V7 := V7_; have BK7 := BK7_; have V8 := V8_; have BK8 := BK8_; have V9 := V9_; have BK9 := BK9_; have V10 := V10_; have BK10 := BK10_; have V11 := V11_; have BK11 := BK11_; have V12 := V12_; have BK12 := BK12_; have BK27 := BK27_; have BK30 := BK30_; have BK34 := BK34_; have BK38 := BK38_; have BK41 := BK41_; have BK44 := BK44_; have BK48 := BK48_; have BK52 := BK52_; have BK55 := BK55_; have BK58 := BK58_; have BK62 := BK62_; clear HB_ V1_ BK1_ V2_ BK2_ V3_ BK3_ V4_ BK4_ V5_ BK5_ V6_ BK6_ V7_ BK7_ V8_ BK8_ V9_ BK9_ V10_ BK10_ V11_ BK11_ V12_ BK12_ BK27_ BK30_ BK34_ BK38_ BK41_ BK44_ BK48_ BK52_ BK55_ BK58_ BK62_; have BK64 := Aside0.mk hbox; clear hg hbox hb; have z9_0 : w64.cell? ⟨w9.heap.size, 0, none⟩ = some (.int .i64 8) := (blk_cell BK9.out 0).trans rfl; have z9_1 : w64.cell? ⟨w9.heap.size, 1, none⟩ = some (.func (Fn.func 102) #[] #[.pointer (some ⟨q9, 0, none⟩), .pointer (some ⟨s9, 0, none⟩), .pointer (some ⟨r9, 0, none⟩)]) := (blk_cell BK9.out 1).trans rfl; have z9_2 : w64.cell? ⟨w9.heap.size, 2, none⟩ = some (.func (Fn.func 100) #[] #[]) := (blk_cell BK9.out 2).trans rfl; have z9_3 : w64.cell? ⟨w9.heap.size, 3, none⟩ = some (.func (Fn.func 101) #[] #[.pointer (some ⟨p9, 0, none⟩)]) := (blk_cell BK9.out 3).trans rfl) | ((with_reducible refine gate_dst (N := 66) rfl ?_); refine val_event ?hg (N := 66) ?hd (v := fun g => .slice (some ⟨g, 0, none⟩) 1 1) (cs := #[.int .i64 8, .func (Fn.func 102) #[] #[.pointer (some ⟨q9, 0, none⟩), .pointer (some ⟨s9, 0, none⟩), .pointer (some ⟨r9, 0, none⟩)], .func (Fn.func 100) #[] #[], .func (Fn.func 101) #[] #[.pointer (some ⟨p9, 0, none⟩)]]) (t := 69) ?hr ?_; (case hd => rfl); (case hg => rfl); (case hr => first | (go_simp; done) | (go_simp; rfl)); intro g66 hg w66 hbox hb; clear z9_0 z9_1 z9_2 z9_3; have HB_ := Aside0.mk (HB.out.trans (hb.mono HB.out.size)); have V1_ := Aside0.mk (V1.out.below hb); have BK1_ := Aside0.mk (blk_below BK1.out hb); have V2_ := Aside0.mk (V2.out.below hb); have BK2_ := Aside0.mk (blk_below BK2.out hb); have V3_ := Aside0.mk (V3.out.below hb); have BK3_ := Aside0.mk (blk_below BK3.out hb); have V4_ := Aside0.mk (V4.out.below hb); have BK4_ := Aside0.mk (blk_below BK4.out hb); have V5_ := Aside0.mk (V5.out.below hb); have BK5_ := Aside0.mk (blk_below BK5.out hb); have V6_ := Aside0.mk (V6.out.below hb); have BK6_ := Aside0.mk (blk_below BK6.out hb); have V7_ := Aside0.mk (V7.out.below hb); have BK7_ := Aside0.mk (blk_below BK7.out hb); have V8_ := Aside0.mk (V8.out.below hb); have BK8_ := Aside0.mk (blk_below BK8.out hb); have V9_ := Aside0.mk (V9.out.below hb); have BK9_ := Aside0.mk (blk_below BK9.out hb); have V10_ := Aside0.mk (V10.out.below hb); have BK10_ := Aside0.mk (blk_below BK10.out hb); have V11_ := Aside0.mk (V11.out.below hb); have BK11_ := Aside0.mk (blk_below BK11.out hb); have V12_ := Aside0.mk (V12.out.below hb); have BK12_ := Aside0.mk (blk_below BK12.out hb); have BK27_ := Aside0.mk (blk_below BK27.out hb); have BK30_ := Aside0.mk (blk_below BK30.out hb); have BK34_ := Aside0.mk (blk_below BK34.out hb); have BK38_ := Aside0.mk (blk_below BK38.out hb); have BK41_ := Aside0.mk (blk_below BK41.out hb); have BK44_ := Aside0.mk (blk_below BK44.out hb); have BK48_ := Aside0.mk (blk_below BK48.out hb); have BK52_ := Aside0.mk (blk_below BK52.out hb); have BK55_ := Aside0.mk (blk_below BK55.out hb); have BK58_ := Aside0.mk (blk_below BK58.out hb); have BK62_ := Aside0.mk (blk_below BK62.out hb); have BK64_ := Aside0.mk (blk_below BK64.out hb); clear HB V1 BK1 V2 BK2 V3 BK3 V4 BK4 V5 BK5 V6 BK6 V7 BK7 V8 BK8 V9 BK9 V10 BK10 V11 BK11 V12 BK12 BK27 BK30 BK34 BK38 BK41 BK44 BK48 BK52 BK55 BK58 BK62 BK64; have HB := HB_; have V1 := V1_; have BK1 := BK1_; have V2 := V2_; have BK2 := BK2_; have V3 := V3_; have BK3 := BK3_; have V4 := V4_; have BK4 := BK4_; have V5 := V5_; have BK5 := BK5_; have V6 := V6_; have BK6 := BK6_; have V7 := V7_; have BK7 := BK7_; have V8 := V8_; have BK8 := BK8_; have V9 := V9_; have BK9 := BK9_; have V10 := V10_; have BK10 := BK10_; have V11 := V11_; have BK11 := BK11_; have V12 := V12_; have BK12 := BK12_; have BK27 := BK27_; have BK30 := BK30_; have BK34 := BK34_; have BK38 := BK38_; have BK41 := BK41_; have BK44 := BK44_; have BK48 := BK48_; have BK52 := BK52_; have BK55 := BK55_; have BK58 := BK58_; have BK62 := BK62_; have BK64 := BK64_; clear HB_ V1_ BK1_ V2_ BK2_ V3_ BK3_ V4_ BK4_ V5_ BK5_ V6_ BK6_ V7_ BK7_ V8_ BK8_ V9_ BK9_ V10_ BK10_ V11_ BK11_ V12_ BK12_ BK27_ BK30_ BK34_ BK38_ BK41_ BK44_ BK48_ BK52_ BK55_ BK58_ BK62_ BK64_; have BK66 := Aside0.mk hbox; clear hg hbox hb; have z2_0 : w66.cell? ⟨w2.heap.size, 0, none⟩ = some (.int .i64 2) := (blk_cell BK2.out 0).trans rfl; have z2_1 : w66.cell? ⟨w2.heap.size, 1, none⟩ = some (.func (Fn.func 97) #[] #[.pointer (some ⟨p2, 0, none⟩)]) := (blk_cell BK2.out 1).trans rfl; have z2_2 : w66.cell? ⟨w2.heap.size, 2, none⟩ = some (.func (Fn.func 98) #[] #[.pointer (some ⟨p2, 0, none⟩)]) := (blk_cell BK2.out 2).trans rfl; have z2_3 : w66.cell? ⟨w2.heap.size, 3, none⟩ = some (.func (Fn.func 99) #[] #[.pointer (some ⟨p2, 0, none⟩), .pointer (some ⟨q2, 0, none⟩)]) := (blk_cell BK2.out 3).trans rfl; have z9_0 : w66.cell? ⟨w9.heap.size, 0, none⟩ = some (.int .i64 8) := (blk_cell BK9.out 0).trans rfl; have z9_1 : w66.cell? ⟨w9.heap.size, 1, none⟩ = some (.func (Fn.func 102) #[] #[.pointer (some ⟨q9, 0, none⟩), .pointer (some ⟨s9, 0, none⟩), .pointer (some ⟨r9, 0, none⟩)]) := (blk_cell BK9.out 1).trans rfl; have z9_2 : w66.cell? ⟨w9.heap.size, 2, none⟩ = some (.func (Fn.func 100) #[] #[]) := (blk_cell BK9.out 2).trans rfl; have z9_3 : w66.cell? ⟨w9.heap.size, 3, none⟩ = some (.func (Fn.func 101) #[] #[.pointer (some ⟨p9, 0, none⟩)]) := (blk_cell BK9.out 3).trans rfl) | ((with_reducible refine gate_dst (N := 69) rfl ?_); refine val_event ?hg (N := 69) ?hd (v := fun g => .slice (some ⟨g, 0, none⟩) 2 2) (cs := #[.int .i64 2, .func (Fn.func 97) #[] #[.pointer (some ⟨p2, 0, none⟩)], .func (Fn.func 98) #[] #[.pointer (some ⟨p2, 0, none⟩)], .func (Fn.func 99) #[] #[.pointer (some ⟨p2, 0, none⟩), .pointer (some ⟨q2, 0, none⟩)], .int .i64 8, .func (Fn.func 102) #[] #[.pointer (some ⟨q9, 0, none⟩), .pointer (some ⟨s9, 0, none⟩), .pointer (some ⟨r9, 0, none⟩)], .func (Fn.func 100) #[] #[], .func (Fn.func 101) #[] #[.pointer (some ⟨p9, 0, none⟩)]]) (t := 69) ?hr ?_; (case hd => rfl); (case hg => rfl); (case hr => first | (go_simp; done) | (go_simp; rfl)); intro g69 hg w69 hbox hb; clear z2_0 z2_1 z2_2 z2_3 z9_0 z9_1 z9_2 z9_3; have HB_ := Aside0.mk (HB.out.trans (hb.mono HB.out.size)); have V1_ := Aside0.mk (V1.out.below hb); have BK1_ := Aside0.mk (blk_below BK1.out hb); have V2_ := Aside0.mk (V2.out.below hb); have BK2_ := Aside0.mk (blk_below BK2.out hb); have V3_ := Aside0.mk (V3.out.below hb); have BK3_ := Aside0.mk (blk_below BK3.out hb); have V4_ := Aside0.mk (V4.out.below hb); have BK4_ := Aside0.mk (blk_below BK4.out hb); have V5_ := Aside0.mk (V5.out.below hb); have BK5_ := Aside0.mk (blk_below BK5.out hb); have V6_ := Aside0.mk (V6.out.below hb); have BK6_ := Aside0.mk (blk_below BK6.out hb); have V7_ := Aside0.mk (V7.out.below hb); have BK7_ := Aside0.mk (blk_below BK7.out hb); have V8_ := Aside0.mk (V8.out.below hb); have BK8_ := Aside0.mk (blk_below BK8.out hb); have V9_ := Aside0.mk (V9.out.below hb); have BK9_ := Aside0.mk (blk_below BK9.out hb); have V10_ := Aside0.mk (V10.out.below hb); have BK10_ := Aside0.mk (blk_below BK10.out hb); have V11_ := Aside0.mk (V11.out.below hb); have BK11_ := Aside0.mk (blk_below BK11.out hb); have V12_ := Aside0.mk (V12.out.below hb); have BK12_ := Aside0.mk (blk_below BK12.out hb); have BK27_ := Aside0.mk (blk_below BK27.out hb); have BK30_ := Aside0.mk (blk_below BK30.out hb); have BK34_ := Aside0.mk (blk_below BK34.out hb); have BK38_ := Aside0.mk (blk_below BK38.out hb); have BK41_ := Aside0.mk (blk_below BK41.out hb); have BK44_ := Aside0.mk (blk_below BK44.out hb); have BK48_ := Aside0.mk (blk_below BK48.out hb); have BK52_ := Aside0.mk (blk_below BK52.out hb); have BK55_ := Aside0.mk (blk_below BK55.out hb); have BK58_ := Aside0.mk (blk_below BK58.out hb); have BK62_ := Aside0.mk (blk_below BK62.out hb); have BK64_ := Aside0.mk (blk_below BK64.out hb); have BK66_ := Aside0.mk (blk_below BK66.out hb); clear HB V1 BK1 V2 BK2 V3 BK3 V4 BK4 V5 BK5 V6 BK6 V7 BK7 V8 BK8 V9 BK9 V10 BK10 V11 BK11 V12 BK12 BK27 BK30 BK34 BK38 BK41 BK44 BK48 BK52 BK55 BK58 BK62 BK64 BK66; have HB := HB_; have V1 := V1_; have BK1 := BK1_; have V2 := V2_; have BK2 := BK2_; have V3 := V3_; have BK3 := BK3_; have V4 := V4_; have BK4 := BK4_; have V5 := V5_; have BK5 := BK5_; have V6 := V6_; have BK6 := BK6_; have V7 := V7_; have BK7 := BK7_; have V8 := V8_; have BK8 := BK8_; have V9 := V9_; have BK9 := BK9_; have V10 := V10_; have BK10 := BK10_; have V11 := V11_; have BK11 := BK11_; have V12 := V12_; have BK12 := BK12_; have BK27 := BK27_; have BK30 := BK30_; have BK34 := BK34_; have BK38 := BK38_; have BK41 := BK41_; have BK44 := BK44_; have BK48 := BK48_; have BK52 := BK52_; have BK55 := BK55_; have BK58 := BK58_; have BK62 := BK62_; have BK64 := BK64_; have BK66 := BK66_; clear HB_ V1_ BK1_ V2_ BK2_ V3_ BK3_ V4_ BK4_ V5_ BK5_ V6_ BK6_ V7_ BK7_ V8_ BK8_ V9_ BK9_ V10_ BK10_ V11_ BK11_ V12_ BK12_ BK27_ BK30_ BK34_ BK38_ BK41_ BK44_ BK48_ BK52_ BK55_ BK58_ BK62_ BK64_ BK66_; have BK69 := Aside0.mk hbox; clear hg hbox hb; have z12_0 : w69.cell? ⟨w12.heap.size, 0, none⟩ = some (.int .i64 16) := (blk_cell BK12.out 0).trans rfl; have z12_1 : w69.cell? ⟨w12.heap.size, 1, none⟩ = some (.func (Fn.func 103) #[] #[.pointer (some ⟨p12, 0, none⟩), .pointer (some ⟨q12, 0, none⟩)]) := (blk_cell BK12.out 1).trans rfl; have z12_2 : w69.cell? ⟨w12.heap.size, 2, none⟩ = some (.func (Fn.func 104) #[] #[.pointer (some ⟨p12, 0, none⟩)]) := (blk_cell BK12.out 2).trans rfl; have z12_3 : w69.cell? ⟨w12.heap.size, 3, none⟩ = some (.func (Fn.func 105) #[] #[.pointer (some ⟨q12, 0, none⟩), .pointer (some ⟨p12, 0, none⟩)]) := (blk_cell BK12.out 3).trans rfl) | ((with_reducible refine gate_dst (N := 71) rfl ?_); refine val_event ?hg (N := 71) ?hd (v := fun g => .slice (some ⟨g, 0, none⟩) 1 1) (cs := #[.int .i64 16, .func (Fn.func 103) #[] #[.pointer (some ⟨p12, 0, none⟩), .pointer (some ⟨q12, 0, none⟩)], .func (Fn.func 104) #[] #[.pointer (some ⟨p12, 0, none⟩)], .func (Fn.func 105) #[] #[.pointer (some ⟨q12, 0, none⟩), .pointer (some ⟨p12, 0, none⟩)]]) (t := 69) ?hr ?_; (case hd => rfl); (case hg => rfl); (case hr => first | (go_simp; done) | (go_simp; rfl)); intro g71 hg w71 hbox hb; clear z12_0 z12_1 z12_2 z12_3; have HB_ := Aside0.mk (HB.out.trans (hb.mono HB.out.size)); have V1_ := Aside0.mk (V1.out.below hb); have BK1_ := Aside0.mk (blk_below BK1.out hb); have V2_ := Aside0.mk (V2.out.below hb); have BK2_ := Aside0.mk (blk_below BK2.out hb); have V3_ := Aside0.mk (V3.out.below hb); have BK3_ := Aside0.mk (blk_below BK3.out hb); have V4_ := Aside0.mk (V4.out.below hb); have BK4_ := Aside0.mk (blk_below BK4.out hb); have V5_ := Aside0.mk (V5.out.below hb); have BK5_ := Aside0.mk (blk_below BK5.out hb); have V6_ := Aside0.mk (V6.out.below hb); have BK6_ := Aside0.mk (blk_below BK6.out hb); have V7_ := Aside0.mk (V7.out.below hb); have BK7_ := Aside0.mk (blk_below BK7.out hb); have V8_ := Aside0.mk (V8.out.below hb); have BK8_ := Aside0.mk (blk_below BK8.out hb); have V9_ := Aside0.mk (V9.out.below hb); have BK9_ := Aside0.mk (blk_below BK9.out hb); have V10_ := Aside0.mk (V10.out.below hb); have BK10_ := Aside0.mk (blk_below BK10.out hb); have V11_ := Aside0.mk (V11.out.below hb); have BK11_ := Aside0.mk (blk_below BK11.out hb); have V12_ := Aside0.mk (V12.out.below hb); have BK12_ := Aside0.mk (blk_below BK12.out hb); have BK27_ := Aside0.mk (blk_below BK27.out hb); have BK30_ := Aside0.mk (blk_below BK30.out hb); have BK34_ := Aside0.mk (blk_below BK34.out hb); have BK38_ := Aside0.mk (blk_below BK38.out hb); have BK41_ := Aside0.mk (blk_below BK41.out hb); have BK44_ := Aside0.mk (blk_below BK44.out hb); have BK48_ := Aside0.mk (blk_below BK48.out hb); have BK52_ := Aside0.mk (blk_below BK52.out hb); have BK55_ := Aside0.mk (blk_below BK55.out hb); have BK58_ := Aside0.mk (blk_below BK58.out hb); have BK62_ := Aside0.mk (blk_below BK62.out hb); have BK64_ := Aside0.mk (blk_below BK64.out hb); have BK66_ := Aside0.mk (blk_below BK66.out hb); have BK69_ := Aside0.mk (blk_below BK69.out hb); clear HB V1 BK1 V2 BK2 V3 BK3 V4 BK4 V5 BK5 V6 BK6 V7 BK7 V8 BK8 V9 BK9 V10 BK10 V11 BK11 V12 BK12 BK27 BK30 BK34 BK38 BK41 BK44 BK48 BK52 BK55 BK58 BK62 BK64 BK66 BK69; have HB := HB_; have V1 := V1_; have BK1 := BK1_; have V2 := V2_; have BK2 := BK2_; have V3 := V3_; have BK3 := BK3_; have V4 := V4_; have BK4 := BK4_; have V5 := V5_; have BK5 := BK5_; have V6 := V6_; have BK6 := BK6_; have V7 := V7_; have BK7 := BK7_; have V8 := V8_; have BK8 := BK8_; have V9 := V9_; have BK9 := BK9_; have V10 := V10_; have BK10 := BK10_; have V11 := V11_; have BK11 := BK11_; have V12 := V12_; have BK12 := BK12_; have BK27 := BK27_; have BK30 := BK30_; have BK34 := BK34_; have BK38 := BK38_; have BK41 := BK41_; have BK44 := BK44_; have BK48 := BK48_; have BK52 := BK52_; have BK55 := BK55_; have BK58 := BK58_; have BK62 := BK62_; have BK64 := BK64_; have BK66 := BK66_; have BK69 := BK69_; clear HB_ V1_ BK1_ V2_ BK2_ V3_ BK3_ V4_ BK4_ V5_ BK5_ V6_ BK6_ V7_ BK7_ V8_ BK8_ V9_ BK9_ V10_ BK10_ V11_ BK11_ V12_ BK12_ BK27_ BK30_ BK34_ BK38_ BK41_ BK44_ BK48_ BK52_ BK55_ BK58_ BK62_ BK64_ BK66_ BK69_; have BK71 := Aside0.mk hbox; clear hg hbox hb; have z1_0 : w71.cell? ⟨w1.heap.size, 0, none⟩ = some (.int .i64 1) := (blk_cell BK1.out 0).trans rfl; have z1_1 : w71.cell? ⟨w1.heap.size, 1, none⟩ = some (.func (Fn.func 97) #[] #[.pointer (some ⟨p1, 0, none⟩)]) := (blk_cell BK1.out 1).trans rfl; have z1_2 : w71.cell? ⟨w1.heap.size, 2, none⟩ = some (.func (Fn.func 98) #[] #[.pointer (some ⟨p1, 0, none⟩)]) := (blk_cell BK1.out 2).trans rfl; have z1_3 : w71.cell? ⟨w1.heap.size, 3, none⟩ = some (.func (Fn.func 99) #[] #[.pointer (some ⟨p1, 0, none⟩), .pointer (some ⟨q1, 0, none⟩)]) := (blk_cell BK1.out 3).trans rfl) | ((with_reducible refine gate_dst (N := 73) rfl ?_); refine val_event ?hg (N := 73) ?hd (v := fun g => .slice (some ⟨g, 0, none⟩) 1 1) (cs := #[.int .i64 1, .func (Fn.func 97) #[] #[.pointer (some ⟨p1, 0, none⟩)], .func (Fn.func 98) #[] #[.pointer (some ⟨p1, 0, none⟩)], .func (Fn.func 99) #[] #[.pointer (some ⟨p1, 0, none⟩), .pointer (some ⟨q1, 0, none⟩)]]) (t := 69) ?hr ?_; (case hd => rfl); (case hg => rfl); (case hr => first | (go_simp; done) | (go_simp; rfl)); intro g73 hg w73 hbox hb; clear z1_0 z1_1 z1_2 z1_3; have HB_ := Aside0.mk (HB.out.trans (hb.mono HB.out.size)); have V1_ := Aside0.mk (V1.out.below hb); have BK1_ := Aside0.mk (blk_below BK1.out hb); have V2_ := Aside0.mk (V2.out.below hb); have BK2_ := Aside0.mk (blk_below BK2.out hb); have V3_ := Aside0.mk (V3.out.below hb); have BK3_ := Aside0.mk (blk_below BK3.out hb); have V4_ := Aside0.mk (V4.out.below hb); have BK4_ := Aside0.mk (blk_below BK4.out hb); have V5_ := Aside0.mk (V5.out.below hb); have BK5_ := Aside0.mk (blk_below BK5.out hb); have V6_ := Aside0.mk (V6.out.below hb); have BK6_ := Aside0.mk (blk_below BK6.out hb); have V7_ := Aside0.mk (V7.out.below hb); have BK7_ := Aside0.mk (blk_below BK7.out hb); have V8_ := Aside0.mk (V8.out.below hb); have BK8_ := Aside0.mk (blk_below BK8.out hb); have V9_ := Aside0.mk (V9.out.below hb); have BK9_ := Aside0.mk (blk_below BK9.out hb); have V10_ := Aside0.mk (V10.out.below hb); have BK10_ := Aside0.mk (blk_below BK10.out hb); have V11_ := Aside0.mk (V11.out.below hb); have BK11_ := Aside0.mk (blk_below BK11.out hb); have V12_ := Aside0.mk (V12.out.below hb); have BK12_ := Aside0.mk (blk_below BK12.out hb); have BK27_ := Aside0.mk (blk_below BK27.out hb); have BK30_ := Aside0.mk (blk_below BK30.out hb); have BK34_ := Aside0.mk (blk_below BK34.out hb); have BK38_ := Aside0.mk (blk_below BK38.out hb); have BK41_ := Aside0.mk (blk_below BK41.out hb); have BK44_ := Aside0.mk (blk_below BK44.out hb); have BK48_ := Aside0.mk (blk_below BK48.out hb); have BK52_ := Aside0.mk (blk_below BK52.out hb); have BK55_ := Aside0.mk (blk_below BK55.out hb); have BK58_ := Aside0.mk (blk_below BK58.out hb); have BK62_ := Aside0.mk (blk_below BK62.out hb); have BK64_ := Aside0.mk (blk_below BK64.out hb); have BK66_ := Aside0.mk (blk_below BK66.out hb); have BK69_ := Aside0.mk (blk_below BK69.out hb); have BK71_ := Aside0.mk (blk_below BK71.out hb); clear HB V1 BK1 V2 BK2 V3 BK3 V4 BK4 V5 BK5 V6 BK6 V7 BK7 V8 BK8 V9 BK9 V10 BK10 V11 BK11 V12 BK12 BK27 BK30 BK34 BK38 BK41 BK44 BK48 BK52 BK55 BK58 BK62 BK64 BK66 BK69 BK71; have HB := HB_; have V1 := V1_; have BK1 := BK1_; have V2 := V2_; have BK2 := BK2_; have V3 := V3_; have BK3 := BK3_; have V4 := V4_; have BK4 := BK4_; have V5 := V5_; have BK5 := BK5_; have V6 := V6_; have BK6 := BK6_; have V7 := V7_; have BK7 := BK7_; have V8 := V8_; have BK8 := BK8_; have V9 := V9_; have BK9 := BK9_; have V10 := V10_; have BK10 := BK10_; have V11 := V11_; have BK11 := BK11_; have V12 := V12_; have BK12 := BK12_; have BK27 := BK27_; have BK30 := BK30_; have BK34 := BK34_; have BK38 := BK38_; have BK41 := BK41_; have BK44 := BK44_; have BK48 := BK48_; have BK52 := BK52_; have BK55 := BK55_; have BK58 := BK58_; have BK62 := BK62_; have BK64 := BK64_; have BK66 := BK66_; have BK69 := BK69_; have BK71 := BK71_; clear HB_ V1_ BK1_ V2_ BK2_ V3_ BK3_ V4_ BK4_ V5_ BK5_ V6_ BK6_ V7_ BK7_ V8_ BK8_ V9_ BK9_ V10_ BK10_ V11_ BK11_ V12_ BK12_ BK27_ BK30_ BK34_ BK38_ BK41_ BK44_ BK48_ BK52_ BK55_ BK58_ BK62_ BK64_ BK66_ BK69_ BK71_; have BK73 := Aside0.mk hbox; clear hg hbox hb; have z1_0 : w73.cell? ⟨w1.heap.size, 0, none⟩ = some (.int .i64 1) := (blk_cell BK1.out 0).trans rfl; have z1_1 : w73.cell? ⟨w1.heap.size, 1, none⟩ = some (.func (Fn.func 97) #[] #[.pointer (some ⟨p1, 0, none⟩)]) := (blk_cell BK1.out 1).trans rfl; have z1_2 : w73.cell? ⟨w1.heap.size, 2, none⟩ = some (.func (Fn.func 98) #[] #[.pointer (some ⟨p1, 0, none⟩)]) := (blk_cell BK1.out 2).trans rfl; have z1_3 : w73.cell? ⟨w1.heap.size, 3, none⟩ = some (.func (Fn.func 99) #[] #[.pointer (some ⟨p1, 0, none⟩), .pointer (some ⟨q1, 0, none⟩)]) := (blk_cell BK1.out 3).trans rfl; have z2_0 : w73.cell? ⟨w2.heap.size, 0, none⟩ = some (.int .i64 2) := (blk_cell BK2.out 0).trans rfl; have z2_1 : w73.cell? ⟨w2.heap.size, 1, none⟩ = some (.func (Fn.func 97) #[] #[.pointer (some ⟨p2, 0, none⟩)]) := (blk_cell BK2.out 1).trans rfl; have z2_2 : w73.cell? ⟨w2.heap.size, 2, none⟩ = some (.func (Fn.func 98) #[] #[.pointer (some ⟨p2, 0, none⟩)]) := (blk_cell BK2.out 2).trans rfl; have z2_3 : w73.cell? ⟨w2.heap.size, 3, none⟩ = some (.func (Fn.func 99) #[] #[.pointer (some ⟨p2, 0, none⟩), .pointer (some ⟨q2, 0, none⟩)]) := (blk_cell BK2.out 3).trans rfl; have z3_0 : w73.cell? ⟨w3.heap.size, 0, none⟩ = some (.int .i64 4) := (blk_cell BK3.out 0).trans rfl; have z3_1 : w73.cell? ⟨w3.heap.size, 1, none⟩ = some (.func (Fn.func 97) #[] #[.pointer (some ⟨p3, 0, none⟩)]) := (blk_cell BK3.out 1).trans rfl; have z3_2 : w73.cell? ⟨w3.heap.size, 2, none⟩ = some (.func (Fn.func 98) #[] #[.pointer (some ⟨p3, 0, none⟩)]) := (blk_cell BK3.out 2).trans rfl; have z3_3 : w73.cell? ⟨w3.heap.size, 3, none⟩ = some (.func (Fn.func 99) #[] #[.pointer (some ⟨p3, 0, none⟩), .pointer (some ⟨q3, 0, none⟩)]) := (blk_cell BK3.out 3).trans rfl) | ((with_reducible refine gate_dst (N := 77) rfl ?_); refine val_event ?hg (N := 77) ?hd (v := fun g => .slice (some ⟨g, 0, none⟩) 3 3) (cs := #[.int .i64 1, .func (Fn.func 97) #[] #[.pointer (some ⟨p1, 0, none⟩)], .func (Fn.func 98) #[] #[.pointer (some ⟨p1, 0, none⟩)], .func (Fn.func 99) #[] #[.pointer (some ⟨p1, 0, none⟩), .pointer (some ⟨q1, 0, none⟩)], .int .i64 2, .func (Fn.func 97) #[] #[.pointer (some ⟨p2, 0, none⟩)], .func (Fn.func 98) #[] #[.pointer (some ⟨p2, 0, none⟩)], .func (Fn.func 99) #[] #[.pointer (some ⟨p2, 0, none⟩), .pointer (some ⟨q2, 0, none⟩)], .int .i64 4, .func (Fn.func 97) #[] #[.pointer (some ⟨p3, 0, none⟩)], .func (Fn.func 98) #[] #[.pointer (some ⟨p3, 0, none⟩)], .func (Fn.func 99) #[] #[.pointer (some ⟨p3, 0, none⟩), .pointer (some ⟨q3, 0, none⟩)]]) (t := 69) ?hr ?_; (case hd => rfl); (case hg => rfl); (case hr => first | (go_simp; done) | (go_simp; rfl)); intro g77 hg w77 hbox hb; clear z1_0 z1_1 z1_2 z1_3 z2_0 z2_1 z2_2 z2_3 z3_0 z3_1 z3_2 z3_3; have HB_ := Aside0.mk (HB.out.trans (hb.mono HB.out.size)); have V1_ := Aside0.mk (V1.out.below hb); have BK1_ := Aside0.mk (blk_below BK1.out hb); have V2_ := Aside0.mk (V2.out.below hb); have BK2_ := Aside0.mk (blk_below BK2.out hb); have V3_ := Aside0.mk (V3.out.below hb); have BK3_ := Aside0.mk (blk_below BK3.out hb); have V4_ := Aside0.mk (V4.out.below hb); have BK4_ := Aside0.mk (blk_below BK4.out hb); have V5_ := Aside0.mk (V5.out.below hb); have BK5_ := Aside0.mk (blk_below BK5.out hb); have V6_ := Aside0.mk (V6.out.below hb); have BK6_ := Aside0.mk (blk_below BK6.out hb); have V7_ := Aside0.mk (V7.out.below hb); have BK7_ := Aside0.mk (blk_below BK7.out hb); have V8_ := Aside0.mk (V8.out.below hb); have BK8_ := Aside0.mk (blk_below BK8.out hb); have V9_ := Aside0.mk (V9.out.below hb); have BK9_ := Aside0.mk (blk_below BK9.out hb); have V10_ := Aside0.mk (V10.out.below hb); have BK10_ := Aside0.mk (blk_below BK10.out hb); have V11_ := Aside0.mk (V11.out.below hb); have BK11_ := Aside0.mk (blk_below BK11.out hb); have V12_ := Aside0.mk (V12.out.below hb); have BK12_ := Aside0.mk (blk_below BK12.out hb); have BK27_ := Aside0.mk (blk_below BK27.out hb); have BK30_ := Aside0.mk (blk_below BK30.out hb); have BK34_ := Aside0.mk (blk_below BK34.out hb); have BK38_ := Aside0.mk (blk_below BK38.out hb); have BK41_ := Aside0.mk (blk_below BK41.out hb); have BK44_ := Aside0.mk (blk_below BK44.out hb); have BK48_ := Aside0.mk (blk_below BK48.out hb); have BK52_ := Aside0.mk (blk_below BK52.out hb); have BK55_ := Aside0.mk (blk_below BK55.out hb); have BK58_ := Aside0.mk (blk_below BK58.out hb); have BK62_ := Aside0.mk (blk_below BK62.out hb); have BK64_ := Aside0.mk (blk_below BK64.out hb); have BK66_ := Aside0.mk (blk_below BK66.out hb); have BK69_ := Aside0.mk (blk_below BK69.out hb); have BK71_ := Aside0.mk (blk_below BK71.out hb); have BK73_ := Aside0.mk (blk_below BK73.out hb); clear HB V1 BK1 V2 BK2 V3 BK3 V4 BK4 V5 BK5 V6 BK6 V7 BK7 V8 BK8 V9 BK9 V10 BK10 V11 BK11 V12 BK12 BK27 BK30 BK34 BK38 BK41 BK44 BK48 BK52 BK55 BK58 BK62 BK64 BK66 BK69 BK71 BK73; have HB := HB_; have V1 := V1_; have BK1 := BK1_; have V2 := V2_; have BK2 := BK2_; have V3 := V3_; have BK3 := BK3_; have V4 := V4_; have BK4 := BK4_; have V5 := V5_; have BK5 := BK5_; have V6 := V6_; have BK6 := BK6_; have V7 := V7_; have BK7 := BK7_; have V8 := V8_; have BK8 := BK8_; have V9 := V9_; have BK9 := BK9_; have V10 := V10_; have BK10 := BK10_; have V11 := V11_; have BK11 := BK11_; have V12 := V12_; have BK12 := BK12_; have BK27 := BK27_; have BK30 := BK30_; have BK34 := BK34_; have BK38 := BK38_; have BK41 := BK41_; have BK44 := BK44_; have BK48 := BK48_; have BK52 := BK52_; have BK55 := BK55_; have BK58 := BK58_; have BK62 := BK62_; have BK64 := BK64_; have BK66 := BK66_; have BK69 := BK69_; have BK71 := BK71_; have BK73 := BK73_; clear HB_ V1_ BK1_ V2_ BK2_ V3_ BK3_ V4_ BK4_ V5_ BK5_ V6_ BK6_ V7_ BK7_ V8_ BK8_ V9_ BK9_ V10_ BK10_ V11_ BK11_ V12_ BK12_ BK27_ BK30_ BK34_ BK38_ BK41_ BK44_ BK48_ BK52_ BK55_ BK58_ BK62_ BK64_ BK66_ BK69_ BK71_ BK73_; have BK77 := Aside0.mk hbox; clear hg hbox hb) | ((with_reducible refine gate_dst (N := 78) rfl ?_); refine val_event ?hg (N := 78) ?hd (v := fun g => .slice (some ⟨g, 0, none⟩) 18 18) (cs := #[.slice none 0 0, .slice (some ⟨g27, 0, none⟩) 2 2, .slice (some ⟨g30, 0, none⟩) 2 2, .slice (some ⟨g34, 0, none⟩) 3 3, .slice (some ⟨g38, 0, none⟩) 3 3, .slice (some ⟨g41, 0, none⟩) 2 2, .slice (some ⟨g44, 0, none⟩) 2 2, .slice (some ⟨g48, 0, none⟩) 3 3, .slice (some ⟨g52, 0, none⟩) 3 3, .slice (some ⟨g55, 0, none⟩) 2 2, .slice (some ⟨g58, 0, none⟩) 2 2, .slice (some ⟨g62, 0, none⟩) 3 3, .slice (some ⟨g64, 0, none⟩) 1 1, .slice (some ⟨g66, 0, none⟩) 1 1, .slice (some ⟨g69, 0, none⟩) 2 2, .slice (some ⟨g71, 0, none⟩) 1 1, .slice (some ⟨g73, 0, none⟩) 1 1, .slice (some ⟨g77, 0, none⟩) 3 3]) (t := 64) ?hr ?_; (case hd => rfl); (case hg => rfl); (case hr => first | (go_simp; done) | (go_simp; rfl)); intro g78 hg w78 hbox hb; have G78 : Aside0 (w.heap.size ≤ g78) := ⟨by have := HB.out.size; omega⟩; have HB_ := Aside0.mk (HB.out.trans (hb.mono HB.out.size)); have V1_ := Aside0.mk (V1.out.below hb); have BK1_ := Aside0.mk (blk_below BK1.out hb); have V2_ := Aside0.mk (V2.out.below hb); have BK2_ := Aside0.mk (blk_below BK2.out hb); have V3_ := Aside0.mk (V3.out.below hb); have BK3_ := Aside0.mk (blk_below BK3.out hb); have V4_ := Aside0.mk (V4.out.below hb); have BK4_ := Aside0.mk (blk_below BK4.out hb); have V5_ := Aside0.mk (V5.out.below hb); have BK5_ := Aside0.mk (blk_below BK5.out hb); have V6_ := Aside0.mk (V6.out.below hb); have BK6_ := Aside0.mk (blk_below BK6.out hb); have V7_ := Aside0.mk (V7.out.below hb); have BK7_ := Aside0.mk (blk_below BK7.out hb); have V8_ := Aside0.mk (V8.out.below hb); have BK8_ := Aside0.mk (blk_below BK8.out hb); have V9_ := Aside0.mk (V9.out.below hb); have BK9_ := Aside0.mk (blk_below BK9.out hb); have V10_ := Aside0.mk (V10.out.below hb); have BK10_ := Aside0.mk (blk_below BK10.out hb); have V11_ := Aside0.mk (V11.out.below hb); have BK11_ := Aside0.mk (blk_below BK11.out hb); have V12_ := Aside0.mk (V12.out.below hb); have BK12_ := Aside0.mk (blk_below BK12.out hb); have BK27_ := Aside0.mk (blk_below BK27.out hb); have BK30_ := Aside0.mk (blk_below BK30.out hb); have BK34_ := Aside0.mk (blk_below BK34.out hb); have BK38_ := Aside0.mk (blk_below BK38.out hb); have BK41_ := Aside0.mk (blk_below BK41.out hb); have BK44_ := Aside0.mk (blk_below BK44.out hb); have BK48_ := Aside0.mk (blk_below BK48.out hb); have BK52_ := Aside0.mk (blk_below BK52.out hb); have BK55_ := Aside0.mk (blk_below BK55.out hb); have BK58_ := Aside0.mk (blk_below BK58.out hb); have BK62_ := Aside0.mk (blk_below BK62.out hb); have BK64_ := Aside0.mk (blk_below BK64.out hb); have BK66_ := Aside0.mk (blk_below BK66.out hb); have BK69_ := Aside0.mk (blk_below BK69.out hb); have BK71_ := Aside0.mk (blk_below BK71.out hb); have BK73_ := Aside0.mk (blk_below BK73.out hb); have BK77_ := Aside0.mk (blk_below BK77.out hb); clear HB V1 BK1 V2 BK2 V3 BK3 V4 BK4 V5 BK5 V6 BK6 V7 BK7 V8 BK8 V9 BK9 V10 BK10 V11 BK11 V12 BK12 BK27 BK30 BK34 BK38 BK41 BK44 BK48 BK52 BK55 BK58 BK62 BK64 BK66 BK69 BK71 BK73 BK77; have HB := HB_; have V1 := V1_; have BK1 := BK1_; have V2 := V2_; have BK2 := BK2_; have V3 := V3_; have BK3 := BK3_; have V4 := V4_; have BK4 := BK4_; have V5 := V5_; have BK5 := BK5_; have V6 := V6_; have BK6 := BK6_; have V7 := V7_; have BK7 := BK7_; have V8 := V8_; have BK8 := BK8_; have V9 := V9_; have BK9 := BK9_; have V10 := V10_; have BK10 := BK10_; have V11 := V11_; have BK11 := BK11_; have V12 := V12_; have BK12 := BK12_; have BK27 := BK27_; have BK30 := BK30_; have BK34 := BK34_; have BK38 := BK38_; have BK41 := BK41_; have BK44 := BK44_; have BK48 := BK48_; have BK52 := BK52_; have BK55 := BK55_; have BK58 := BK58_; have BK62 := BK62_; have BK64 := BK64_; have BK66 := BK66_; have BK69 := BK69_; have BK71 := BK71_; have BK73 := BK73_; have BK77 := BK77_; clear HB_ V1_ BK1_ V2_ BK2_ V3_ BK3_ V4_ BK4_ V5_ BK5_ V6_ BK6_ V7_ BK7_ V8_ BK8_ V9_ BK9_ V10_ BK10_ V11_ BK11_ V12_ BK12_ BK27_ BK30_ BK34_ BK38_ BK41_ BK44_ BK48_ BK52_ BK55_ BK58_ BK62_ BK64_ BK66_ BK69_ BK71_ BK73_ BK77_; have BK78 := Aside0.mk hbox; clear hg hbox hb))
 go_ret
 refine ⟨g78, rfl, fun op h1 h2 => ?_, G78.out, HB.out⟩
 have hop : op = 1 ∨ op = 2 ∨ op = 3 ∨ op = 4 ∨ op = 5 ∨ op = 6 ∨ op = 7 ∨ op = 8 ∨ op = 9 ∨ op = 10 ∨ op = 11 ∨ op = 12 ∨ op = 13 ∨ op = 14 ∨ op = 15 ∨ op = 16 ∨ op = 17 := by omega
 rcases hop with rfl | rfl | rfl | rfl | rfl | rfl | rfl | rfl | rfl | rfl | rfl | rfl | rfl | rfl | rfl | rfl | rfl
 ·exact ⟨g27, (blk_cell BK78.out 1).trans rfl, row2 BK27.out V1.out V4.out⟩
 ·exact ⟨g30, (blk_cell BK78.out 2).trans rfl, row2 BK30.out V1.out V2.out⟩
 ·exact ⟨g34, (blk_cell BK78.out 3).trans rfl, row3 BK34.out V1.out V2.out V3.out⟩
 ·exact ⟨g38, (blk_cell BK78.out 4).trans rfl, row3 BK38.out V1.out V2.out V3.out⟩
 ·exact ⟨g41, (blk_cell BK78.out 5).trans rfl, row2 BK41.out V1.out V2.out⟩
 ·exact ⟨g44, (blk_cell BK78.out 6).trans rfl, row2 BK44.out V1.out V5.out⟩
 ·exact ⟨g48, (blk_cell BK78.out 7).trans rfl, row3 BK48.out V1.out V2.out V6.out⟩
 ·exact ⟨g52, (blk_cell BK78.out 8).trans rfl, row3 BK52.out V1.out V2.out V6.out⟩
 ·exact ⟨g55, (blk_cell BK78.out 9).trans rfl, row2 BK55.out V1.out V7.out⟩
 ·exact ⟨g58, (blk_cell BK78.out 10).trans rfl, row2 BK58.out V2.out V7.out⟩
 ·exact ⟨g62, (blk_cell BK78.out 11).trans rfl, row3 BK62.out V8.out V10.out V11.out⟩
 ·exact ⟨g64, (blk_cell BK78.out 12).trans rfl, row1 BK64.out V2.out⟩
 ·exact ⟨g66, (blk_cell BK78.out 13).trans rfl, row1 BK66.out V9.out⟩
 ·exact ⟨g69, (blk_cell BK78.out 14).trans rfl, row2 BK69.out V2.out V9.out⟩
 ·exact ⟨g71, (blk_cell BK78.out 15).trans rfl, row1 BK71.out V12.out⟩
 ·exact ⟨g73, (blk_cell BK78.out 16).trans rfl, row1 BK73.out V1.out⟩
 ·exact ⟨g77, (blk_cell BK78.out 17).trans rfl, row3 BK77.out V1.out V2.out V3.out⟩
def TAB_102.T0 : Bool × List (List Nat × List Nat) := (true, [([], []), ([], []), ([1], [1]), ([2], [2]), ([3], [3]), ([], []), ([4, 5], [4, 5]), ([6], [6]), ([7], [7]), ([8, 7], [7, 8]), ([9, 7], [7, 9]), ([10, 7], [7, 10]), ([7], [7]), ([7], [7]), ([7], [7]), ([12, 13, 14, 7, 7], [7, 12, 13, 14]), ([11, 15, 7], [7, 11, 15]), ([7, 16], [7, 16]), ([], []), ([0, 17, 18, 15], [0, 17, 18])])
def TAB_102.B0 : List Nat := [0, 0, 2, 6, 14, 0, 62, 126, 254, 510, 1022, 2046, 254, 254, 254, 28926, 65534, 131070, 0, 524287]
theorem TAB_102.tab0 : rtab .any (opsOf Tryd.f102 0) = TAB_102.T0 := by kernel_rfl
theorem TAB_102.bits0 : waitsOk TAB_102.T0.2 TAB_102.B0 = true := by kernel_rfl
theorem callP_ {P : Program} {ops : Array Oper} {Q : Exit → Act → World → Prop} {oi : Oper} {N : Option Tmp} {a : Act} {w : World} {K : Act → World → Prop} (f : FuncId) (args : Array Value) (hw : Region.wanted oi (yielded ops a.tmps) = true) (hN : oi.dst = N) (hrun : (execOp a.eval oi).run P w = .ok (.enter f args) w)
  (h : Calls P f args w fun e w' => ∃ ch, e = .panicked ch ∧ Q (.panic ch) a w') : if Region.wanted oi (yielded ops a.tmps) = true then Oper.wp P oi a w K Q else K (a.put N undef) w := by
 rw [if_pos hw]
 subst hN
 unfold Oper.wp
 rw [hrun, Oper.upon_enter]
 refine h.mono fun e w'' hh => ?_
 obtain ⟨v, rfl, hk⟩ := hh
 exact hk
theorem goesP_ {P : Program} {ops : Array Oper} {Q : Exit → Act → World → Prop} {oi : Oper} {N : Option Tmp} {a : Act} {w : World} {K : Act → World → Prop} {f : FuncId} {fn : Func} {as_ : Array Operand} {ts : Array TypeId} (hf : P.funcs[f]? = some fn) (hname : (fn.name == "runtime.NumGoroutine") = false) (hb : fn.body.isSome = true) (args : Array Value)
  (hw : Region.wanted oi (yielded ops a.tmps) = true) (hN : oi.dst = N) (hop : oi.op = .call { callee := .value (.func f), args := as_, argTypes := ts }) (hargs : as_.map a.eval = args)
  (h : Calls P f args w fun e w' => ∃ ch, e = .panicked ch ∧ Q (.panic ch) a w') : if Region.wanted oi (yielded ops a.tmps) = true then Oper.wp P oi a w K Q else K (a.put N undef) w := by
 refine callP_ f args hw hN ?_ h
 have he := enters_ hf hname hb args w
 unfold execOp
 simp [hop, resolve, Deferred.ofValue, invoke, Act.eval, hargs, he]
def stopV (er at_ : Int) : Value := .iface 74 (.agg #[.int .i64 er, .int .i64 at_])
def AskW (w : World) (g : Nat) (ty : TypeId) (rest : List Value) (G : Int) (A : Option Addr) (n c B : Nat) (locs at_ : Int) : Prop :=
 w.heap[g]? = some (.cells (Array.mk (.int .i64 G :: .slice A n c :: .slice (some ⟨B, 0, none⟩) 18 18 :: .int .i64 locs :: .int .i64 at_ :: rest)) ty (0, 0))
section
variable {w w' : World} {g B : Nat} {ty : TypeId} {rest : List Value} {G : Int} {A : Option Addr} {n c : Nat} {locs at_ : Int}
theorem AskW.c0 (h : AskW w g ty rest G A n c B locs at_) : w.cell? ⟨g, 0, none⟩ = some (.int .i64 G) := (blk_cell h 0).trans rfl
theorem AskW.c1 (h : AskW w g ty rest G A n c B locs at_) : w.cell? ⟨g, 1, none⟩ = some (.slice A n c) := (blk_cell h 1).trans rfl
theorem AskW.c2 (h : AskW w g ty rest G A n c B locs at_) : w.cell? ⟨g, 2, none⟩ = some (.slice (some ⟨B, 0, none⟩) 18 18) := (blk_cell h 2).trans rfl
theorem AskW.c3 (h : AskW w g ty rest G A n c B locs at_) : w.cell? ⟨g, 3, none⟩ = some (.int .i64 locs) := (blk_cell h 3).trans rfl
theorem AskW.c4 (h : AskW w g ty rest G A n c B locs at_) : w.cell? ⟨g, 4, none⟩ = some (.int .i64 at_) := (blk_cell h 4).trans rfl
theorem AskW.below (h : AskW w g ty rest G A n c B locs at_) (hb : Below w.heap.size w w') : AskW w' g ty rest G A n c B locs at_ := blk_below h hb
theorem AskW.set3 (h : AskW w g ty rest G A n c B locs at_) (z : Int) : AskW (w.setCell ⟨g, 3, none⟩ (.int .i64 z)) g ty rest G A n c B z at_ := (blk_set h 3 _).trans (by simp)
end
theorem must_true (a : Option Addr) (er : Int) (w : World) : Calls Tryd.prog 42 #[.pointer a, .bool true, .int .i64 er] w fun e w' => e = .returned (.tuple #[]) ∧ w = w' := by
 go_enter Tryd.func42, Tryd.ntmps42
 go_wp2
 go_end0
 exact ⟨rfl, rfl⟩
theorem must_false (g : Nat) (er at_ : Int) (w : World) (h : w.cell? ⟨g, 4, none⟩ = some (.int .i64 at_)) : Calls Tryd.prog 42 #[.pointer (some ⟨g, 0, none⟩), .bool false, .int .i64 er] w fun e w' => e = .panicked [{ v := stopV er at_, recovered := false }] ∧ w = w' := by
 go_enter Tryd.func42, Tryd.ntmps42
 go_wp2
 exact ⟨rfl, rfl, rfl⟩
def MustPost (w : World) (b : Bool) (er at_ : Int) (e : Ending) (w' : World) : Prop := e = (bif b then .returned (.tuple #[]) else .panicked [{ v := stopV er at_, recovered := false }]) ∧ w = w'
theorem must_any (g : Nat) (b : Bool) (er at_ : Int) (w : World) (h : w.cell? ⟨g, 4, none⟩ = some (.int .i64 at_)) : Calls Tryd.prog 42 #[.pointer (some ⟨g, 0, none⟩), .bool b, .int .i64 er] w fun e w' => MustPost w b er at_ e w' := by
 cases b with
 | true => exact must_true _ er w
 | false => exact must_false g er at_ w h
theorem of69 (q : Addr) (w : World) : Calls Tryd.prog 69 #[.pointer (some q)] w fun e w' => e = .returned (.pointer (some ⟨q.block, q.off + 1, none⟩)) ∧ w = w' := by
 go_enter Tryd.func69, Tryd.ntmps69
 go_wp2
 go_ret
 exact ⟨rfl, rfl⟩
theorem of70 (q : Addr) (w : World) : Calls Tryd.prog 70 #[.pointer (some q)] w fun e w' => e = .returned (.pointer (some ⟨q.block, q.off + 2, none⟩)) ∧ w = w' := by
 go_enter Tryd.func70, Tryd.ntmps70
 go_wp2
 go_ret
 exact ⟨rfl, rfl⟩
theorem of71 (q : Addr) (w : World) : Calls Tryd.prog 71 #[.pointer (some q)] w fun e w' => e = .returned (.pointer (some ⟨q.block, q.off + 3, none⟩)) ∧ w = w' := by
 go_enter Tryd.func71, Tryd.ntmps71
 go_wp2
 go_ret
 exact ⟨rfl, rfl⟩
def AskPost (w : World) (er at_ : Int) (e : Ending) (w' : World) : Prop := e = (if er = 0 then .returned (.tuple #[]) else .panicked [{ v := stopV er at_, recovered := false }]) ∧ Below w.heap.size w w'
theorem askPost_ok {w w' : World} {er at_ : Int} (h : er = 0) (hb : Below w.heap.size w w') : AskPost w er at_ (.returned (.tuple #[])) w' := ⟨by rw [if_pos h], hb⟩
theorem askPost_no {w w' : World} {er at_ k : Int} (h : er = k) (hk : k ≠ 0) (hb : Below w.heap.size w w') : AskPost w er at_ (.panicked [{ v := stopV k at_, recovered := false }]) w' := ⟨by rw [h, if_neg hk], hb⟩
def varE (V v : Int) : Int := if 0 ≤ v ∧ v < V then 0 else 13
set_option maxRecDepth 100000 in
set_option maxHeartbeats 1600000 in
theorem ask_var (f i : Nat) (hof : ∀ (q : Addr) (w : World), Calls Tryd.prog f #[.pointer (some q)] w fun e w' => e = .returned (.pointer (some ⟨q.block, q.off + i, none⟩)) ∧ w = w') (hf : f = 69 ∨ f = 70 ∨ f = 71)
  (g b1 : Nat) (qf qx : Addr) (n V v at_ : Int) (w : World) (h4 : w.cell? ⟨g, 4, none⟩ = some (.int .i64 at_)) (hV : w.cell? ⟨qf.block, qf.off + 2, none⟩ = some (.int .i64 V)) (hv : w.cell? ⟨qx.block, qx.off + i, none⟩ = some (.int .i64 v)) (hb : w.heap[b1]? = some (.cells #[.func (Fn.func f) #[] #[]] 108 (0, 0))) :
  Calls Tryd.prog 97 #[.pointer (some ⟨g, 0, none⟩), .pointer (some qf), .pointer (some qx), .int .i64 n, .pointer (some ⟨b1, 0, none⟩)] w fun e w' => AskPost w (varE V v) at_ e w' := by
 have hb0 : w.cell? ⟨b1, 0, none⟩ = some (.func (Fn.func f) #[] #[]) := (blk_cell hb 0).trans rfl
 have HO := Aside0.mk hof
 have H4 := Aside0.mk h4
 clear hof hb h4
 by_cases h0 : 0 ≤ v
 ·by_cases h1 : v < V
  ·have HP : Aside0 (varE V v = if true = true then 0 else 13) := ⟨by unfold varE; rw [if_pos ⟨h0, h1⟩, if_pos rfl]⟩
   rcases hf with rfl | rfl | rfl
   all_goals
    go_enter Tryd.func97, Tryd.ntmps97
    go_wp2_with (first | (go_at_call 69; refine (HO.out _ _).mono ?_; rintro e w' ⟨rfl, rfl⟩) | (go_at_call 70; refine (HO.out _ _).mono ?_; rintro e w' ⟨rfl, rfl⟩) | (go_at_call 71; refine (HO.out _ _).mono ?_; rintro e w' ⟨rfl, rfl⟩))
    refine (must_true _ _ _).mono ?_
    rintro e w' ⟨rfl, rfl⟩
    go_wp2_with fail
    go_end0
    exact askPost_ok HP.out (Below.refl _ _)
  ·have HP : Aside0 (varE V v = 13) := ⟨by unfold varE; rw [if_neg (fun h => h1 h.2)]⟩
   have h1b : decide (v < V) = false := decide_eq_false h1
   rcases hf with rfl | rfl | rfl
   all_goals
    go_enter Tryd.func97, Tryd.ntmps97
    go_wp2_with (first | (go_at_call 69; refine (HO.out _ _).mono ?_; rintro e w' ⟨rfl, rfl⟩) | (go_at_call 70; refine (HO.out _ _).mono ?_; rintro e w' ⟨rfl, rfl⟩) | (go_at_call 71; refine (HO.out _ _).mono ?_; rintro e w' ⟨rfl, rfl⟩))
    refine (must_false _ _ _ _ H4.out).mono ?_
    rintro e w' ⟨rfl, rfl⟩
    go_wp2_with fail
    exact ⟨rfl, askPost_no HP.out (by decide) (Below.refl _ _)⟩
 ·have HP : Aside0 (varE V v = 13) := ⟨by unfold varE; rw [if_neg (fun h => h0 h.1)]⟩
  have h0b : decide (0 ≤ v) = false := decide_eq_false h0
  rcases hf with rfl | rfl | rfl
  all_goals
   go_enter Tryd.func97, Tryd.ntmps97
   go_wp2_with (first | (go_at_call 69; refine (HO.out _ _).mono ?_; rintro e w' ⟨rfl, rfl⟩) | (go_at_call 70; refine (HO.out _ _).mono ?_; rintro e w' ⟨rfl, rfl⟩) | (go_at_call 71; refine (HO.out _ _).mono ?_; rintro e w' ⟨rfl, rfl⟩))
   refine (must_false _ _ _ _ H4.out).mono ?_
   rintro e w' ⟨rfl, rfl⟩
   go_wp2_with fail
   exact ⟨rfl, askPost_no HP.out (by decide) (Below.refl _ _)⟩
theorem end75 (g : Nat) (n : Int) (w : World) : Calls Tryd.prog 75 #[.pointer (some ⟨g, 0, none⟩), .int .i64 n] w fun e w' => e = .returned (.int .i64 9) ∧ w' = w := by
 go_enter Tryd.func75, Tryd.ntmps75
 go_wp2
 go_ret
 exact ⟨rfl, rfl⟩
theorem end76 (g : Nat) (n : Int) (w : World) : Calls Tryd.prog 76 #[.pointer (some ⟨g, 0, none⟩), .int .i64 n] w fun e w' => e = .returned (.int .i64 8) ∧ w' = w := by
 go_enter Tryd.func76, Tryd.ntmps76
 go_wp2
 go_ret
 exact ⟨rfl, rfl⟩
theorem end77 (g : Nat) (n G : Int) (w : World) (h : w.cell? ⟨g, 0, none⟩ = some (.int .i64 G)) : Calls Tryd.prog 77 #[.pointer (some ⟨g, 0, none⟩), .int .i64 n] w fun e w' => e = .returned (.int .i64 G) ∧ w' = w := by
 go_enter Tryd.func77, Tryd.ntmps77
 go_wp2
 go_ret
 exact ⟨rfl, rfl⟩
theorem end78 (g : Nat) (n : Int) (A : Option Addr) (m c : Nat) (w : World) (h : w.cell? ⟨g, 1, none⟩ = some (.slice A m c)) : Calls Tryd.prog 78 #[.pointer (some ⟨g, 0, none⟩), .int .i64 n] w fun e w' => e = .returned (.int .i64 (m : Int)) ∧ w' = w := by
 go_enter Tryd.func78, Tryd.ntmps78
 go_wp2
 go_ret
 exact ⟨rfl, rfl⟩
theorem end79 (g : Nat) (n : Int) (w : World) : Calls Tryd.prog 79 #[.pointer (some ⟨g, 0, none⟩), .int .i64 n] w fun e w' => e = .returned (.int .i64 n) ∧ w' = w := by
 go_enter Tryd.func79, Tryd.ntmps79
 go_wp2
 go_ret
 exact ⟨rfl, rfl⟩
theorem wp_tail {P : Program} {id : Nat} {Q : Exit → Act → World → Prop} {a : Act} {w : World} {l : List Oper} (n : Nat) (hm : P.follows .mixedOrders = true) (hB : Region.lexTailB .any l.toArray n = true)
  (h : wpStill P l.toArray w.drew (fun a' => wpList P l.toArray Q (l.drop n) a' w.drew) (l.take n) a) : (Code.region id l.toArray true).wp P Q a w := wp_region_still_tail n hm hB h
def numE (lo E er v : Int) : Int := if lo ≤ v ∧ v < E then 0 else er
def Enters (f : Nat) : Prop := ∀ (args : Array Value) (w : World), (callFunc f args).run Tryd.prog w = .ok (.enter f args) w
theorem ent75 : Enters 75 := fun _ _ => enters_ Tryd.func75 (by kernel_rfl) (by kernel_rfl) _ _
theorem ent76 : Enters 76 := fun _ _ => enters_ Tryd.func76 (by kernel_rfl) (by kernel_rfl) _ _
theorem ent77 : Enters 77 := fun _ _ => enters_ Tryd.func77 (by kernel_rfl) (by kernel_rfl) _ _
theorem ent78 : Enters 78 := fun _ _ => enters_ Tryd.func78 (by kernel_rfl) (by kernel_rfl) _ _
theorem ent79 : Enters 79 := fun _ _ => enters_ Tryd.func79 (by kernel_rfl) (by kernel_rfl) _ _
theorem ent81 : Enters 81 := fun _ _ => enters_ Tryd.func81 (by kernel_rfl) (by kernel_rfl) _ _
theorem ent82 : Enters 82 := fun _ _ => enters_ Tryd.func82 (by kernel_rfl) (by kernel_rfl) _ _
theorem ent83 : Enters 83 := fun _ _ => enters_ Tryd.func83 (by kernel_rfl) (by kernel_rfl) _ _
theorem ent84 : Enters 84 := fun _ _ => enters_ Tryd.func84 (by kernel_rfl) (by kernel_rfl) _ _
theorem ent85 : Enters 85 := fun _ _ => enters_ Tryd.func85 (by kernel_rfl) (by kernel_rfl) _ _
set_option maxRecDepth 100000 in
set_option maxHeartbeats 1600000 in
theorem ask_num (f : Nat) (hf : Enters f) (E lo er : Int) (her : er ≠ 0) (g b3 b4 b5 : Nat) (qf qx : Addr) (n v at_ : Int) (w : World) (hend : Calls Tryd.prog f #[.pointer (some ⟨g, 0, none⟩), .int .i64 n] w.drew fun e w' => e = .returned (.int .i64 E) ∧ w' = w.drew)
  (h4 : w.cell? ⟨g, 4, none⟩ = some (.int .i64 at_)) (hv : w.cell? ⟨qx.block, qx.off + 4, none⟩ = some (.int .i64 v)) (hb3 : w.heap[b3]? = some (.cells #[.int .i64 lo] 3 (0, 0))) (hb4 : w.heap[b4]? = some (.cells #[.int .i64 er] 27 (0, 0))) (hb5 : w.heap[b5]? = some (.cells #[.func (Fn.func f) #[] #[]] 111 (0, 0))) :
  Calls Tryd.prog 102 #[.pointer (some ⟨g, 0, none⟩), .pointer (some qf), .pointer (some qx), .int .i64 n, .pointer (some ⟨b3, 0, none⟩), .pointer (some ⟨b5, 0, none⟩), .pointer (some ⟨b4, 0, none⟩)] w fun e w' => AskPost w (numE lo E er v) at_ e w' := by
 have hc3 : w.cell? ⟨b3, 0, none⟩ = some (.int .i64 lo) := (blk_cell hb3 0).trans rfl
 have hc4 : w.cell? ⟨b4, 0, none⟩ = some (.int .i64 er) := (blk_cell hb4 0).trans rfl
 have hc5 : w.cell? ⟨b5, 0, none⟩ = some (.func (Fn.func f) #[] #[]) := (blk_cell hb5 0).trans rfl
 have HE := Aside0.mk hend
 have H4 : Aside0 (w.drew.cell? ⟨g, 4, none⟩ = some (.int .i64 at_)) := ⟨h4⟩
 have HR := Aside0.mk her
 have hen : ∀ (args : Array Value) (w : World), (callFunc f args).run Tryd.prog w = .ok (.enter f args) w := hf
 clear hend h4 hb3 hb4 hb5 her hf
 by_cases h0 : lo ≤ v
 ·by_cases h1 : v < E
  ·have HP : Aside0 (numE lo E er v = 0) := ⟨by unfold numE; rw [if_pos ⟨h0, h1⟩]⟩
   go_enter Tryd.func102, Tryd.ntmps102
   go_wp2
   refine wp_tail 19 (by kernel_rfl) (by kernel_rfl) ?_
   simp only [List.take_succ_cons, List.take_zero, List.drop_succ_cons, List.drop_zero]
   repeat still_step
   still_call HE.out
   repeat still_step
   refine wpStill_nil ?_
   go_wp2_with (go_at_call 42; refine (must_true _ _ _).mono ?_; rintro e w' ⟨rfl, rfl⟩)
   go_end0
   exact askPost_ok HP.out (below_drew (Below.refl _ _))
  ·have HP : Aside0 (numE lo E er v = er) := ⟨by unfold numE; rw [if_neg (fun h => h1 h.2)]⟩
   have h1b : decide (v < E) = false := decide_eq_false h1
   clear h1
   go_enter Tryd.func102, Tryd.ntmps102
   go_wp2
   refine wp_tail 19 (by kernel_rfl) (by kernel_rfl) ?_
   simp only [List.take_succ_cons, List.take_zero, List.drop_succ_cons, List.drop_zero]
   repeat still_step
   still_call HE.out
   repeat still_step
   refine wpStill_nil ?_
   go_wp2_with (go_at_call 42; refine (must_false _ _ _ _ H4.out).mono ?_; rintro e w' ⟨rfl, rfl⟩)
   exact ⟨rfl, askPost_no HP.out HR.out (below_drew (Below.refl _ _))⟩
 ·have HP : Aside0 (numE lo E er v = er) := ⟨by unfold numE; rw [if_neg (fun h => h0 h.1)]⟩
  have h0b : decide (lo ≤ v) = false := decide_eq_false h0
  clear h0
  go_enter Tryd.func102, Tryd.ntmps102
  refine start_ (n := 20) (S := fun w' => w'.cell? ⟨qx.block, qx.off + 4, none⟩ = some (.int .i64 v) ∧ w'.cell? ⟨b3, 0, none⟩ = some (.int .i64 lo) ∧ w'.cell? ⟨b4, 0, none⟩ = some (.int .i64 er)) (ds := []) #[false, false, false, false, false, false, false, false, false, false, false, false, false, false, false, false, false, false, false, false] (by kernel_rfl) rfl rfl ⟨hv, hc3, hc4⟩ (fun hHeld => ?_)
  refine with_tabW TAB_102.tab0 TAB_102.bits0 (fun HT_ HW_ => ?_)
  refine pq 0 (some 11) (v := ?_) (a' := ?_) rfl rfl (any_of HT_.out (by kernel_rfl)) (fun _ _ _ h => h) (Or.inl ⟨by rfl, ?_⟩) ?_ ?_
  rotate_left; (intro w'; go_simp; with_reducible rfl); rotate_left; (simp only [Act.put, pn, i64_w, i32_w]; rfl)
  refine pq 1 (some 12) (v := ?_) (a' := ?_) rfl rfl (any_of HT_.out (by kernel_rfl)) (fun _ _ _ h => h) (Or.inl ⟨by rfl, ?_⟩) ?_ ?_
  rotate_left; (intro w'; go_simp; with_reducible rfl); rotate_left; (simp only [Act.put, pn, i64_w, i32_w]; rfl)
  refine pq 2 (some 13) (v := ?_) (a' := ?_) rfl rfl (any_of HT_.out (by kernel_rfl)) (fun _ _ _ h => h) (Or.inl ⟨by rfl, ?_⟩) ?_ ?_
  rotate_left; (intro w'; go_simp; with_reducible rfl); rotate_left; (simp only [Act.put, pn, i64_w, i32_w]; rfl)
  refine pq 3 (some 14) (v := ?_) (a' := ?_) rfl rfl (any_of HT_.out (by kernel_rfl)) (fun _ _ _ h => h) (Or.inl ⟨by rfl, ?_⟩) ?_ ?_
  rotate_left; (intro w'; go_simp; with_reducible rfl); rotate_left; (simp only [Act.put, pn, i64_w, i32_w]; rfl)
  refine pt 4 (some 15) (v := ?_) (a' := ?_) rfl rfl (take_ofW HT_.out HW_.out (by kernel_rfl)) (fun _ _ _ h => h) (Or.inl ⟨by rfl, ?_⟩) hHeld ?_ ?_
  rotate_left; (rintro w' ⟨s0, s1, s2⟩; go_simp; with_reducible rfl); rotate_left; (simp only [Act.put, pn, i64_w, i32_w]; rfl)
  refine pt 5 (some 16) (v := ?_) (a' := ?_) rfl rfl (take_ofW HT_.out HW_.out (by kernel_rfl)) (fun _ _ _ h => h) (Or.inl ⟨by rfl, ?_⟩) hHeld ?_ ?_
  rotate_left; (rintro w' ⟨s0, s1, s2⟩; go_simp; with_reducible rfl); rotate_left; (simp only [Act.put, pn, i64_w, i32_w]; rfl)
  refine pq 6 (some 17) (v := ?_) (a' := ?_) rfl rfl (any_of HT_.out (by kernel_rfl)) (fun _ _ _ h => h) (Or.inl ⟨by rfl, ?_⟩) ?_ ?_
  rotate_left; (intro w'; go_simp; with_reducible rfl); rotate_left; (simp only [Act.put, pn, i64_w, i32_w]; rfl)
  refine pq 7 (some 18) (v := ?_) (a' := ?_) rfl rfl (any_of HT_.out (by kernel_rfl)) (fun _ _ _ h => h) (Or.inl ⟨by rfl, ?_⟩) ?_ ?_
  rotate_left; (intro w'; go_simp; with_reducible rfl); rotate_left; (simp only [Act.put, pn, i64_w, i32_w]; rfl)
  refine pure_ (i := 8) (N := some 19) (v := undef) (a' := ?_) #[true, true, true, true, true, true, true, true, true, false, false, false, false, false, false, false, false, false, false, false] rfl rfl (any_of HT_.out (by kernel_rfl)) (fun _ _ _ h => h) (Or.inr ⟨by rfl, rfl⟩) ?_ ?_
  rotate_left
  ·simp only [Act.put, pn, i64_w, i32_w]
   rfl
  refine pure_ (i := 9) (N := some 20) (v := undef) (a' := ?_) #[true, true, true, true, true, true, true, true, true, true, false, false, false, false, false, false, false, false, false, false] rfl rfl (any_of HT_.out (by kernel_rfl)) (fun _ _ _ h => h) (Or.inr ⟨by rfl, rfl⟩) ?_ ?_
  rotate_left
  ·simp only [Act.put, pn, i64_w, i32_w]
   rfl
  refine pure_ (i := 10) (N := some 21) (v := undef) (a' := ?_) #[true, true, true, true, true, true, true, true, true, true, true, false, false, false, false, false, false, false, false, false] rfl rfl (any_of HT_.out (by kernel_rfl)) (fun _ _ _ h => h) (Or.inr ⟨by rfl, rfl⟩) ?_ ?_
  rotate_left
  ·simp only [Act.put, pn, i64_w, i32_w]
   rfl
  refine pure_ (i := 11) (N := some 22) (v := undef) (a' := ?_) #[true, true, true, true, true, true, true, true, true, true, true, true, false, false, false, false, false, false, false, false] rfl rfl (any_of HT_.out (by kernel_rfl)) (fun _ _ _ h => h) (Or.inr ⟨by rfl, rfl⟩) ?_ ?_
  rotate_left
  ·simp only [Act.put, pn, i64_w, i32_w]
   rfl
  refine pure_ (i := 12) (N := some 23) (v := undef) (a' := ?_) #[true, true, true, true, true, true, true, true, true, true, true, true, true, false, false, false, false, false, false, false] rfl rfl (any_of HT_.out (by kernel_rfl)) (fun _ _ _ h => h) (Or.inr ⟨by rfl, rfl⟩) ?_ ?_
  rotate_left
  ·simp only [Act.put, pn, i64_w, i32_w]
   rfl
  refine pure_ (i := 13) (N := some 24) (v := undef) (a' := ?_) #[true, true, true, true, true, true, true, true, true, true, true, true, true, true, false, false, false, false, false, false] rfl rfl (any_of HT_.out (by kernel_rfl)) (fun _ _ _ h => h) (Or.inr ⟨by rfl, rfl⟩) ?_ ?_
  rotate_left
  ·simp only [Act.put, pn, i64_w, i32_w]
   rfl
  refine pure_ (i := 14) (N := some 25) (v := undef) (a' := ?_) #[true, true, true, true, true, true, true, true, true, true, true, true, true, true, true, false, false, false, false, false] rfl rfl (any_of HT_.out (by kernel_rfl)) (fun _ _ _ h => h) (Or.inr ⟨by rfl, rfl⟩) ?_ ?_
  rotate_left
  ·simp only [Act.put, pn, i64_w, i32_w]
   rfl
  refine pure_ (i := 15) (N := some 26) (v := undef) (a' := ?_) #[true, true, true, true, true, true, true, true, true, true, true, true, true, true, true, true, false, false, false, false] rfl rfl (any_of HT_.out (by kernel_rfl)) (fun _ _ _ h => h) (Or.inr ⟨by rfl, rfl⟩) ?_ ?_
  rotate_left
  ·simp only [Act.put, pn, i64_w, i32_w]
   rfl
  refine pure_ (i := 16) (N := some 27) (v := undef) (a' := ?_) #[true, true, true, true, true, true, true, true, true, true, true, true, true, true, true, true, true, false, false, false] rfl rfl (any_of HT_.out (by kernel_rfl)) (fun _ _ _ h => h) (Or.inr ⟨by rfl, rfl⟩) ?_ ?_
  rotate_left
  ·simp only [Act.put, pn, i64_w, i32_w]
   rfl
  refine pq 17 (some 28) (v := ?_) (a' := ?_) rfl rfl (any_of HT_.out (by kernel_rfl)) (fun _ _ _ h => h) (Or.inl ⟨by rfl, ?_⟩) ?_ ?_
  rotate_left; (intro w'; go_simp; with_reducible rfl); rotate_left; (simp only [Act.put, pn, i64_w, i32_w]; rfl)
  refine pt 18 (some 29) (v := ?_) (a' := ?_) rfl rfl (take_ofW HT_.out HW_.out (by kernel_rfl)) (fun _ _ _ h => h) (Or.inl ⟨by rfl, ?_⟩) hHeld ?_ ?_
  rotate_left; (rintro w' ⟨s0, s1, s2⟩; go_simp; with_reducible rfl); rotate_left; (simp only [Act.put, pn, i64_w, i32_w]; rfl)
  refine one_ (i := 19) (N := some 30) #[true, true, true, true, true, true, true, true, true, true, true, true, true, true, true, true, true, true, true, true] rfl rfl (one_of HT_.out (by kernel_rfl)) (by decide) (fun K hK => ?_)
  refine goesP_ Tryd.func42 (by kernel_rfl) rfl #[.pointer (some ⟨g, 0, none⟩), .bool false, .int .i64 er] (by rfl) rfl rfl (by simp only [List.map_toArray, List.map_cons, List.map_nil]; rfl) ?_
  with_reducible refine (must_false _ _ _ _ H4.out).mono ?_
  rintro e_ wc ⟨rfl, rfl⟩
  refine ⟨_, rfl, ?_⟩
  exact ⟨rfl, askPost_no HP.out HR.out (below_drew (Below.refl _ _))⟩
theorem of81 (q : Addr) (w : World) : Calls Tryd.prog 81 #[.pointer (some q)] w fun e w' => e = .returned (.pointer (some ⟨q.block, q.off + 5, none⟩)) ∧ w = w' := by
 go_enter Tryd.func81, Tryd.ntmps81
 go_wp2
 go_ret
 exact ⟨rfl, rfl⟩
theorem of83 (q : Addr) (w : World) : Calls Tryd.prog 83 #[.pointer (some q)] w fun e w' => e = .returned (.pointer (some ⟨q.block, q.off + 6, none⟩)) ∧ w = w' := by
 go_enter Tryd.func83, Tryd.ntmps83
 go_wp2
 go_ret
 exact ⟨rfl, rfl⟩
theorem want85 (g : Nat) (qf qx : Addr) (R : Int) (w : World) (h : w.cell? ⟨qf.block, qf.off + 1, none⟩ = some (.int .i64 R)) : Calls Tryd.prog 85 #[.pointer (some ⟨g, 0, none⟩), .pointer (some qf), .pointer (some qx)] w fun e w' => e = .returned (.int .i64 R) ∧ Below w.heap.size w w' := by
 go_enter Tryd.func85, Tryd.ntmps85
 go_wp2
 go_ret
 exact ⟨rfl, Below.refl _ _⟩
theorem want82 (g : Nat) (qf qx ad : Addr) (m c : Nat) (N P : Int) (w : World) (h1 : w.cell? ⟨g, 1, none⟩ = some (.slice (some ad) m c)) (hN : w.cell? ⟨qx.block, qx.off + 4, none⟩ = some (.int .i64 N)) (h0 : 0 ≤ N) (h2 : N < m) (hP : w.cell? (ad.add (N.toNat * 4)) = some (.int .i64 P)) : Calls Tryd.prog 82 #[.pointer (some ⟨g, 0, none⟩), .pointer (some qf), .pointer (some qx)] w fun e w' => e = .returned (.int .i64 P) ∧ Below w.heap.size w w' := by
 go_enter Tryd.func82, Tryd.ntmps82
 go_wp2
 go_quiet (fail)
 go_wp2
 go_ret
 exact ⟨rfl, pw_below_drewN (Below.refl _ _) _⟩
theorem want84 (g : Nat) (qf qx ad : Addr) (m c : Nat) (N P : Int) (w : World) (h1 : w.cell? ⟨g, 1, none⟩ = some (.slice (some ad) m c)) (hN : w.cell? ⟨qx.block, qx.off + 4, none⟩ = some (.int .i64 N)) (h0 : 0 ≤ N) (h2 : N < m) (hP : w.cell? ⟨(ad.add (N.toNat * 4)).block, (ad.add (N.toNat * 4)).off + 1, none⟩ = some (.int .i64 P)) : Calls Tryd.prog 84 #[.pointer (some ⟨g, 0, none⟩), .pointer (some qf), .pointer (some qx)] w fun e w' => e = .returned (.int .i64 P) ∧ Below w.heap.size w w' := by
 go_enter Tryd.func84, Tryd.ntmps84
 go_wp2
 go_quiet (fail)
 go_wp2
 go_ret
 exact ⟨rfl, pw_below_drewN (Below.refl _ _) _⟩
def varB (V v : Int) : Bool := decide (0 ≤ v) && decide (v < V)
def listE (W V : Int) (l : List Int) : Int := if (l.length : Int) = W then (if l.all (varB V) = true then 0 else 13) else 15
theorem wrap_in {x : Int} (h0 : -9223372036854775808 ≤ x) (h1 : x ≤ 9223372036854775807) : wrap64 x = x := by unfold wrap64; omega
theorem rd_get (xs : List Int) (i : Nat) (h : i < xs.length) : rd xs (i : Int) = xs[i] := by unfold rd; rw [Int.toNat_natCast, List.getD_eq_getElem?_getD, List.getElem?_eq_getElem h]; rfl
theorem take_all (V : Int) (l : List Int) (q : Nat) (h : q < l.length) : (l.take (q + 1)).all (varB V) = ((l.take q).all (varB V) && varB V l[q]) := by
 rw [List.take_succ_eq_append_getElem h, List.all_append]
 simp
theorem not_all (V : Int) (l : List Int) (q : Nat) (h : q < l.length) (hb : varB V l[q] = false) : l.all (varB V) = false := by
 rw [Bool.eq_false_iff]
 intro ha
 rw [List.all_eq_true] at ha
 rw [ha _ (List.getElem_mem h)] at hb
 cases hb
set_option maxRecDepth 100000 in
set_option maxHeartbeats 1600000 in
theorem ask_list (fo fw j : Nat) (ho : Enters fo) (hw : Enters fw) (g b4 b5 : Nat) (qf qx : Addr) (n V W at_ : Int) (A : Option Addr) (c : Nat) (l : List Int) (w : World)
  (hof : Calls Tryd.prog fo #[.pointer (some qx)] w fun e w' => e = .returned (.pointer (some ⟨qx.block, qx.off + j, none⟩)) ∧ w = w')
  (hwant : Calls Tryd.prog fw #[.pointer (some ⟨g, 0, none⟩), .pointer (some qf), .pointer (some qx)] w fun e w' => e = .returned (.int .i64 W) ∧ Below w.heap.size w w')
  (h4 : w.cell? ⟨g, 4, none⟩ = some (.int .i64 at_)) (hl : w.cell? ⟨qx.block, qx.off + j, none⟩ = some (.slice A l.length c)) (hV : w.cell? ⟨qf.block, qf.off + 2, none⟩ = some (.int .i64 V)) (hC : (Kd.int .i64).C w A l.length l)
  (hb4 : w.heap[b4]? = some (.cells #[.func (Fn.func fo) #[] #[]] 113 (0, 0))) (hb5 : w.heap[b5]? = some (.cells #[.func (Fn.func fw) #[] #[]] 114 (0, 0))) :
  Calls Tryd.prog 103 #[.pointer (some ⟨g, 0, none⟩), .pointer (some qf), .pointer (some qx), .int .i64 n, .pointer (some ⟨b4, 0, none⟩), .pointer (some ⟨b5, 0, none⟩)] w fun e w' => AskPost w (listE W V l) at_ e w' := by
 have hc4 : w.cell? ⟨b4, 0, none⟩ = some (.func (Fn.func fo) #[] #[]) := (blk_cell hb4 0).trans rfl
 have hc5 : w.cell? ⟨b5, 0, none⟩ = some (.func (Fn.func fw) #[] #[]) := (blk_cell hb5 0).trans rfl
 have HO := Aside0.mk hof
 have HW := Aside0.mk hwant
 have H4 := Aside0.mk h4
 have HV := Aside0.mk hV
 have HC := Aside0.mk hC
 have hm : l.length ≤ 9223372036854775807 := Kd.C_max hC
 have hen : ∀ (args : Array Value) (w : World), (callFunc fo args).run Tryd.prog w = .ok (.enter fo args) w := ho
 have hen2 : ∀ (args : Array Value) (w : World), (callFunc fw args).run Tryd.prog w = .ok (.enter fw args) w := hw
 obtain ⟨L, hL⟩ : ∃ L, L = l.length := ⟨_, rfl⟩
 have HL := Aside0.mk hL
 rw [← hL] at hl hm
 clear hof hwant h4 hV hC hb4 hb5 ho hw hL
 go_enter Tryd.func103, Tryd.ntmps103
 go_wp2_with fail
 refine HO.out.mono ?_
 rintro e w' ⟨rfl, rfl⟩
 go_wp2_with fail
 refine HW.out.mono ?_
 rintro e w1 ⟨rfl, hb⟩
 have HB := Aside0.mk hb
 have H41 := Aside0.mk (pw_cell_below hb H4.out)
 have hV1 := pw_cell_below hb HV.out
 clear hb hl hc4 hc5 hen hen2
 by_cases hlen : (L : Int) = W
 ·have e1 : ((L : Int) == W) = true := by rw [beq_iff_eq]; exact hlen
  have HE : Aside0 (listE W V l = if l.all (varB V) = true then 0 else 13) := ⟨by unfold listE; rw [if_pos (by rw [← HL.out]; exact hlen)]⟩
  clear hlen
  go_wp2_with (go_at_call 42; refine (must_true _ _ _).mono ?_; rintro e w' ⟨rfl, rfl⟩)
  go_loop [30] (fun v30 => ∃ q : Nat, q ≤ L ∧ v30 = .int .i64 (q : Int) ∧ Aside0 ((l.take q).all (varB V) = true)) (fun i => L - (intOf i).toNat)
  case atStart => exact ⟨0, Nat.zero_le _, rfl, ⟨by simp⟩⟩
  case round =>
   obtain ⟨q, hq, rfl, HA⟩ := hrel
   by_cases hlt : q < L
   ·have q0 : (0 : Int) ≤ (q : Int) := by omega
    have q1 : (q : Int) < (L : Int) := by omega
    have hql : q < l.length := by rw [← HL.out]; exact hlt
    have hwp : wrap64 ((q : Int) + 1) = (q : Int) + 1 := wrap_in (by omega) (by omega)
    obtain ⟨ad, e0, hx⟩ := Kd.at_int (Kd.C_below HC.out HB.out) (q : Int) q0 (by rw [← HL.out]; exact q1)
    subst e0
    rw [rd_get l q hql, Int.toNat_natCast] at hx
    have HT := Aside0.mk (take_all V l q hql)
    have HN := Aside0.mk (not_all V l q hql)
    obtain ⟨v, hv⟩ : ∃ v, v = l[q] := ⟨_, rfl⟩
    rw [← hv] at hx HT HN
    clear hv hql
    by_cases h0 : 0 ≤ v
    ·by_cases h1 : v < V
     ·have HV2 : Aside0 ((l.take (q + 1)).all (varB V) = true) := ⟨by rw [HT.out, HA.out]; unfold varB; rw [decide_eq_true h0, decide_eq_true h1]; rfl⟩
      go_wp2_with (go_at_call 42; refine (must_true _ _ _).mono ?_; rintro e w' ⟨rfl, rfl⟩)
      go_round
      case rel => exact ⟨q + 1, by omega, by go_num, HV2⟩
      case measure => simp [intOf]; omega
     ·have h1b : decide (v < V) = false := decide_eq_false h1
      have HP : Aside0 (listE W V l = 13) := ⟨by rw [HE.out, if_neg (by rw [HN.out (by unfold varB; rw [h1b, Bool.and_false])]; decide)]⟩
      clear h1
      go_wp2_with (go_at_call 42; refine (must_false _ _ _ _ H41.out).mono ?_; rintro e w' ⟨rfl, rfl⟩)
      exact ⟨rfl, askPost_no HP.out (by decide) HB.out⟩
    ·have h0b : decide (0 ≤ v) = false := decide_eq_false h0
     have HP : Aside0 (listE W V l = 13) := ⟨by rw [HE.out, if_neg (by rw [HN.out (by unfold varB; rw [h0b, Bool.false_and])]; decide)]⟩
     clear h0
     go_wp2_with (go_at_call 42; refine (must_false _ _ _ _ H41.out).mono ?_; rintro e w' ⟨rfl, rfl⟩)
     exact ⟨rfl, askPost_no HP.out (by decide) HB.out⟩
   ·obtain rfl : L = q := by omega
    have HP : Aside0 (listE W V l = 0) := ⟨by have h := HA.out; rw [HL.out, List.take_of_length_le (Nat.le_refl _)] at h; rw [HE.out, if_pos h]⟩
    go_wp2_with fail
    go_end0
    exact askPost_ok HP.out HB.out
 ·have e1 : ((L : Int) == W) = false := by rw [beq_eq_false_iff_ne]; exact hlen
  have HP : Aside0 (listE W V l = 15) := ⟨by unfold listE; rw [if_neg (by rw [← HL.out]; exact hlen)]⟩
  clear hlen
  go_wp2_with (go_at_call 42; refine (must_false _ _ _ _ H41.out).mono ?_; rintro e w' ⟨rfl, rfl⟩)
  exact ⟨rfl, askPost_no HP.out (by decide) HB.out⟩
def maskOf : PK → Int
 | .R => 1
 | .S => 2
 | .T => 4
 | .int | .fields | .field | .glob | .func | .jump => 8
 | .args | .vals => 16
 | .rets => 32
theorem mask_is {w : World} {c0 c1 c2 c3 : Value} : ∀ {k : PK}, PartIs w k [c0, c1, c2, c3] → c0 = .int .i64 (maskOf k)
 | .R, ⟨_, _, h, _⟩ => (List.cons.inj h).1
 | .S, ⟨_, _, h, _⟩ => (List.cons.inj h).1
 | .T, ⟨_, _, h, _⟩ => (List.cons.inj h).1
 | .int, ⟨_, h, _⟩ => (List.cons.inj h).1
 | .fields, ⟨_, _, _, _, h, _⟩ => (List.cons.inj h).1
 | .field, ⟨_, _, _, _, h, _⟩ => (List.cons.inj h).1
 | .glob, ⟨_, _, _, _, h, _⟩ => (List.cons.inj h).1
 | .func, ⟨_, _, _, _, h, _⟩ => (List.cons.inj h).1
 | .jump, ⟨_, _, _, _, h, _⟩ => (List.cons.inj h).1
 | .args, ⟨_, _, h, _⟩ => (List.cons.inj h).1
 | .rets, ⟨_, _, h, _⟩ => (List.cons.inj h).1
 | .vals, ⟨_, _, h, _⟩ => (List.cons.inj h).1
def masks (ks : List PK) : Int := (ks.map maskOf).foldl (bits .or .i64) 0
theorem masks_next (ks : List PK) (q : Nat) (h : q < ks.length) : masks (ks.take (q + 1)) = bits .or .i64 (masks (ks.take q)) (maskOf ks[q]) := by
 unfold masks
 rw [List.take_succ_eq_append_getElem h, List.map_append, List.foldl_append]
 rfl
theorem fns_is {w : World} {c0 c1 c2 c3 : Value} : ∀ {k : PK}, PartIs w k [c0, c1, c2, c3] → ∃ k1 a1 k2 a2 k3 a3, c1 = .func (Fn.func k1) #[] a1 ∧ c2 = .func (Fn.func k2) #[] a2 ∧ c3 = .func (Fn.func k3) #[] a3
 | .R, ⟨_, _, h, _⟩ => by injection h with _ h; injection h with h1 h; injection h with h2 h; injection h with h3 _; exact ⟨_, _, _, _, _, _, h1, h2, h3⟩
 | .S, ⟨_, _, h, _⟩ => by injection h with _ h; injection h with h1 h; injection h with h2 h; injection h with h3 _; exact ⟨_, _, _, _, _, _, h1, h2, h3⟩
 | .T, ⟨_, _, h, _⟩ => by injection h with _ h; injection h with h1 h; injection h with h2 h; injection h with h3 _; exact ⟨_, _, _, _, _, _, h1, h2, h3⟩
 | .int, ⟨_, h, _⟩ => by injection h with _ h; injection h with h1 h; injection h with h2 h; injection h with h3 _; exact ⟨_, _, _, _, _, _, h1, h2, h3⟩
 | .fields, ⟨_, _, _, _, h, _⟩ => by injection h with _ h; injection h with h1 h; injection h with h2 h; injection h with h3 _; exact ⟨_, _, _, _, _, _, h1, h2, h3⟩
 | .field, ⟨_, _, _, _, h, _⟩ => by injection h with _ h; injection h with h1 h; injection h with h2 h; injection h with h3 _; exact ⟨_, _, _, _, _, _, h1, h2, h3⟩
 | .glob, ⟨_, _, _, _, h, _⟩ => by injection h with _ h; injection h with h1 h; injection h with h2 h; injection h with h3 _; exact ⟨_, _, _, _, _, _, h1, h2, h3⟩
 | .func, ⟨_, _, _, _, h, _⟩ => by injection h with _ h; injection h with h1 h; injection h with h2 h; injection h with h3 _; exact ⟨_, _, _, _, _, _, h1, h2, h3⟩
 | .jump, ⟨_, _, _, _, h, _⟩ => by injection h with _ h; injection h with h1 h; injection h with h2 h; injection h with h3 _; exact ⟨_, _, _, _, _, _, h1, h2, h3⟩
 | .args, ⟨_, _, h, _⟩ => by injection h with _ h; injection h with h1 h; injection h with h2 h; injection h with h3 _; exact ⟨_, _, _, _, _, _, h1, h2, h3⟩
 | .rets, ⟨_, _, h, _⟩ => by injection h with _ h; injection h with h1 h; injection h with h2 h; injection h with h3 _; exact ⟨_, _, _, _, _, _, h1, h2, h3⟩
 | .vals, ⟨_, _, h, _⟩ => by injection h with _ h; injection h with h1 h; injection h with h2 h; injection h with h3 _; exact ⟨_, _, _, _, _, _, h1, h2, h3⟩
def use1 (b : Bool) (k u : Int) : Int := if b = true then bits .or .i64 u k else u
def usedB (B : List Bool) : Nat → Int
 | 0 => 0
 | q + 1 => use1 (B.getD q false) (wrap64 (2 ^ q)) (usedB B q)
def plainB (ks : List PK) (B : List Bool) : Bool := bits .andNot .i64 (usedB B 6) (masks ks) == 0
set_option maxRecDepth 100000 in
set_option maxHeartbeats 8000000 in
theorem plain_any (ks : List PK) (b : Nat) (qx : Addr) (x : S50) (A5 A6 : Option Addr) (n5 c5 n6 c6 : Nat) (w : World) (hr : RowIs w b ks) (hk : ks.length ≤ 3)
  (h1 : w.cell? ⟨qx.block, qx.off + 1, none⟩ = some (.int .i64 x.f1)) (h2 : w.cell? ⟨qx.block, qx.off + 2, none⟩ = some (.int .i64 x.f2)) (h3 : w.cell? ⟨qx.block, qx.off + 3, none⟩ = some (.int .i64 x.f3)) (h4 : w.cell? ⟨qx.block, qx.off + 4, none⟩ = some (.int .i64 x.f4))
  (h5 : w.cell? ⟨qx.block, qx.off + 5, none⟩ = some (.slice A5 n5 c5)) (h6 : w.cell? ⟨qx.block, qx.off + 6, none⟩ = some (.slice A6 n6 c6)) :
  Calls Tryd.prog 92 #[.slice (some ⟨b, 0, none⟩) ks.length ks.length, .pointer (some qx)] w fun e w' => e = .returned (.bool (plainB ks [(x.f1 != 0), (x.f2 != 0), (x.f3 != 0), (x.f4 != 0), decide (0 < n5), decide (0 < n6)])) ∧ Below w.heap.size w w' := by
 have HB := Aside0.mk (Below.refl w.heap.size w)
 have HR := Aside0.mk hr
 have HK := Aside0.mk hk
 have HX := Aside0.mk (And.intro h1 (And.intro h2 (And.intro h3 (And.intro h4 (And.intro h5 h6)))))
 clear hr hk h1 h2 h3 h4 h5 h6
 obtain ⟨n, hn⟩ : ∃ n, n = ks.length := ⟨_, rfl⟩
 have Hn := Aside0.mk hn
 rw [← hn] at HK ⊢
 have hm : n ≤ 9223372036854775807 := by have := HK.out; omega
 clear hn
 go_enter Tryd.func92, Tryd.ntmps92
 go_wp2_with fail
 go_loopw [5, 13] (fun v5 v13 w' => ∃ (q : Nat) (M : Int), q ≤ n ∧ v13 = .int .i64 (q : Int) ∧ v5 = .int .i64 M ∧ Aside0 (M = masks (ks.take q)) ∧ Aside0 (Below w.heap.size w w')) (fun _ i _ => n - (intOf i).toNat)
 case atStart => exact ⟨0, 0, Nat.zero_le _, rfl, rfl, ⟨rfl⟩, HB⟩
 case round =>
  obtain ⟨q, M, hq, rfl, rfl, HM, HBq⟩ := hrel
  by_cases hlt : q < n
  ·have q0 : (0 : Int) ≤ (q : Int) := by omega
   have q1 : (q : Int) < (n : Int) := by omega
   have hwp : wrap64 ((q : Int) + 1) = (q : Int) + 1 := wrap_in (by omega) (by omega)
   have hql : q < ks.length := by rw [← Hn.out]; exact hlt
   obtain ⟨c0, c1, c2, c3, hp, z0, z1, z2, z3⟩ := HR.out q ks[q] (List.getElem?_eq_getElem hql)
   have hc0 := mask_is hp
   subst hc0
   obtain ⟨k1, a1, k2, a2, k3, a3, rfl, rfl, rfl⟩ := fns_is hp
   replace z0 := pw_cell_below HBq.out z0
   replace z1 := pw_cell_below HBq.out z1
   replace z2 := pw_cell_below HBq.out z2
   replace z3 := pw_cell_below HBq.out z3
   clear hp
   have HMn : Aside0 (bits .or .i64 M (maskOf ks[q]) = masks (ks.take (q + 1))) := ⟨by rw [masks_next ks q hql, HM.out]⟩
   have HBn : Aside0 (Below w.heap.size w (wr.alloc (.cells #[.int .i64 (maskOf ks[q]), .func (Fn.func k1) #[] a1, .func (Fn.func k2) #[] a2, .func (Fn.func k3) #[] a3] 69))) := ⟨below_alloc HBq.out _⟩
   go_wp2_with fail
   go_roundw
   case rel => exact ⟨q + 1, _, by omega, by go_num, rfl, HMn, HBn⟩
   case measure => simp [intOf]; omega
  ·obtain rfl : n = q := by omega
   have HMn : Aside0 (M = masks ks) := ⟨by have h := HM.out; rwa [Hn.out, List.take_of_length_le (Nat.le_refl _)] at h⟩
   have h1 := pw_cell_below HBq.out HX.out.1
   have h2 := pw_cell_below HBq.out HX.out.2.1
   have h3 := pw_cell_below HBq.out HX.out.2.2.1
   have h4 := pw_cell_below HBq.out HX.out.2.2.2.1
   have h5 := pw_cell_below HBq.out HX.out.2.2.2.2.1
   have h6 := pw_cell_below HBq.out HX.out.2.2.2.2.2
   obtain ⟨b0, hb0⟩ : ∃ b, (x.f1 != 0) = b := ⟨_, rfl⟩
   obtain ⟨b1, hb1⟩ : ∃ b, (x.f2 != 0) = b := ⟨_, rfl⟩
   obtain ⟨b2, hb2⟩ : ∃ b, (x.f3 != 0) = b := ⟨_, rfl⟩
   obtain ⟨b3, hb3⟩ : ∃ b, (x.f4 != 0) = b := ⟨_, rfl⟩
   obtain ⟨b4, hb4⟩ : ∃ b, decide (0 < n5) = b := ⟨_, rfl⟩
   obtain ⟨b5, hb5⟩ : ∃ b, decide (0 < n6) = b := ⟨_, rfl⟩
   have HBs : Aside0 ([(x.f1 != 0), (x.f2 != 0), (x.f3 != 0), (x.f4 != 0), decide (0 < n5), decide (0 < n6)] = [b0, b1, b2, b3, b4, b5]) := ⟨by rw [hb0, hb1, hb2, hb3, hb4, hb5]⟩
   go_wp2_with fail
   go_quiet (fail)
   clear hb0 hb1 hb2 hb3 hb4 hb5 h1 h2 h3 h4 h5 h6
   have HBq2 : Aside0 (Below w.heap.size w (wr.drewN nq)) := ⟨pw_below_drewN HBq.out nq⟩
   go_wp2_with fail
   have ix : ∀ (q : Nat), q < 6 → ∀ w : World, (Instr.index 128 (.agg #[.bool b0, .bool b1, .bool b2, .bool b3, .bool b4, .bool b5]) (.int .i64 (q : Int))).run Tryd.prog w = .ok (.bool ([b0, b1, b2, b3, b4, b5].getD q false)) w := fun q hq w => by
    have : q = 0 ∨ q = 1 ∨ q = 2 ∨ q = 3 ∨ q = 4 ∨ q = 5 := by omega
    rcases this with rfl | rfl | rfl | rfl | rfl | rfl <;> rfl
   have IX := Aside0.mk ix
   clear ix
   obtain ⟨B, hBd⟩ : ∃ B, B = [b0, b1, b2, b3, b4, b5] := ⟨_, rfl⟩
   rw [← hBd] at IX HBs
   clear hBd
   go_loop [8, 55] (fun v8 v55 => ∃ q : Nat, q ≤ 6 ∧ v55 = .int .i64 (q : Int) ∧ v8 = .int .i64 (usedB B q)) (fun _ i => 6 - (intOf i).toNat)
   case atStart => exact ⟨0, by omega, rfl, rfl⟩
   case round =>
    obtain ⟨q, hq, rfl, rfl⟩ := hrel
    by_cases hlt : q < 6
    ·have q1 : (q : Int) < 6 := by omega
     have q0 : (0 : Int) ≤ (q : Int) := by omega
     have hwp : wrap64 ((q : Int) + 1) = (q : Int) + 1 := wrap_in (by omega) (by omega)
     have hix := IX.out q hlt
     obtain ⟨U, hU⟩ : ∃ U, U = usedB B q := ⟨_, rfl⟩
     have HU : Aside0 (usedB B (q + 1) = use1 (B.getD q false) (wrap64 (2 ^ q)) U) := ⟨by rw [hU]; rfl⟩
     rw [← hU]
     clear hU
     cases hc : B.getD q false with
     | true =>
      rw [hc] at hix HU
      have HU2 : Aside0 (usedB B (q + 1) = bits .or .i64 U (wrap64 (2 ^ q))) := ⟨HU.out⟩
      clear HU hc
      go_wp2_with fail
      go_round
      case rel => exact ⟨q + 1, by omega, by go_num, by rw [HU2.out]⟩
      case measure => simp [intOf]; omega
     | false =>
      rw [hc] at hix HU
      have HU2 : Aside0 (usedB B (q + 1) = U) := ⟨HU.out⟩
      clear HU hc
      go_wp2_with fail
      go_round
      case rel => exact ⟨q + 1, by omega, by go_num, by rw [HU2.out]⟩
      case measure => simp [intOf]; omega
    ·obtain rfl : 6 = q := by omega
     go_wp2_with fail
     go_ret
     have HP : plainB ks [(x.f1 != 0), (x.f2 != 0), (x.f3 != 0), (x.f4 != 0), decide (0 < n5), decide (0 < n6)] = (bits .andNot .i64 (usedB B 6) M == 0) := by rw [HBs.out, HMn.out]; rfl
     exact ⟨by rw [HP]; rfl, HBq2.out⟩
end Go.Proofs.YteonppgdmhakoaaDoor.PC
namespace Go.Proofs.YteonppgdmhakoaaDoor.PC
open Go.RowKit Go.Proofs.YteonppgdmhakoaaDoorW.PrintWords Go.Proofs.YteonppgdmhakoaaDoorW.PrintLast Go.Proofs.YteonppgdmhakoaaDoorW.PrintMore
attribute [local go_sem] max2_int min2_int max_two min_two
set_option linter.unusedVariables false
set_option linter.unusedSimpArgs false
def TAB_58.T0 : Bool × List (List Nat × List Nat) := (true, [([], []), ([0], [0]), ([1], [1]), ([2], [2]), ([3], [3]), ([4], [4]), ([5], [5]), ([6, 5], [5, 6]), ([7, 5], [5, 7]), ([8, 5], [5, 8]), ([5], [5]), ([10, 5], [5, 10]), ([11, 5], [5, 11]), ([12, 5], [5, 12]), ([13, 5], [5, 13]), ([9, 14, 5], [5, 9, 14]), ([5, 15], [5, 15]), ([16, 5, 0, 1, 2, 3, 4, 5, 6, 7, 8, 9, 10, 11, 12, 13, 14, 15, 16], [16])])
def TAB_58.B0 : List Nat := [0, 1, 3, 7, 15, 31, 63, 127, 255, 511, 63, 1087, 3135, 7231, 15423, 32767, 65535, 131071]
theorem TAB_58.tab0 : rtab .any (opsOf Tryd.f58 0) = TAB_58.T0 := by kernel_rfl
theorem TAB_58.bits0 : waitsOk TAB_58.T0.2 TAB_58.B0 = true := by kernel_rfl
def TAB_58.T3 : Bool × List (List Nat × List Nat) := (true, [([], []), ([0], [0]), ([1], [1]), ([2], [2]), ([], []), ([4], [4]), ([5], [5]), ([6], [6]), ([3, 7], [3, 7]), ([0, 0, 1, 2, 3, 4, 5, 6, 7, 8], [0]), ([9, 0, 1, 2, 3, 4, 5, 6, 7, 8], [9]), ([10, 8, 0, 1, 2, 3, 4, 5, 6, 7, 8], [8, 10])])
def TAB_58.B3 : List Nat := [0, 1, 3, 7, 0, 16, 48, 112, 255, 511, 1023, 2047]
theorem TAB_58.tab3 : rtab .any (opsOf Tryd.f58 3) = TAB_58.T3 := by kernel_rfl
theorem TAB_58.bits3 : waitsOk TAB_58.T3.2 TAB_58.B3 = true := by kernel_rfl
def globE (n : Int) : Int := if 0 ≤ n ∧ n ≤ 16 then 0 else 18
def funcsE (n : Int) : Int := if 1 ≤ n ∧ n ≤ 65535 then 0 else 20
theorem globals_any (g : Nat) (n at_ : Int) (w : World) (h4 : w.cell? ⟨g, 4, none⟩ = some (.int .i64 at_)) : Calls Tryd.prog 44 #[.pointer (some ⟨g, 0, none⟩), .int .i64 n] w fun e w' => AskPost w (globE n) at_ e w' := by
 have H4 := Aside0.mk h4
 clear h4
 by_cases h0 : 0 ≤ n
 ·by_cases h1 : n ≤ 16
  ·have HP : Aside0 (globE n = 0) := ⟨if_pos ⟨h0, h1⟩⟩
   go_enter Tryd.func44, Tryd.ntmps44
   go_wp2_with (go_at_call 42; refine (must_true _ _ _).mono ?_; rintro e w' ⟨rfl, rfl⟩)
   go_end0
   exact askPost_ok HP.out (Below.refl _ _)
  ·have HP : Aside0 (globE n = 18) := ⟨if_neg (fun h => h1 h.2)⟩
   have h1b : decide (n ≤ 16) = false := decide_eq_false h1
   clear h1
   go_enter Tryd.func44, Tryd.ntmps44
   go_wp2_with (go_at_call 42; refine (must_false _ _ _ _ H4.out).mono ?_; rintro e w' ⟨rfl, rfl⟩)
   exact ⟨rfl, askPost_no HP.out (by decide) (Below.refl _ _)⟩
 ·have HP : Aside0 (globE n = 18) := ⟨if_neg (fun h => h0 h.1)⟩
  have h0b : decide (0 ≤ n) = false := decide_eq_false h0
  clear h0
  go_enter Tryd.func44, Tryd.ntmps44
  go_wp2_with (go_at_call 42; refine (must_false _ _ _ _ H4.out).mono ?_; rintro e w' ⟨rfl, rfl⟩)
  exact ⟨rfl, askPost_no HP.out (by decide) (Below.refl _ _)⟩
theorem funcs_any (g : Nat) (n at_ : Int) (w : World) (h4 : w.cell? ⟨g, 4, none⟩ = some (.int .i64 at_)) : Calls Tryd.prog 45 #[.pointer (some ⟨g, 0, none⟩), .int .i64 n] w fun e w' => AskPost w (funcsE n) at_ e w' := by
 have H4 := Aside0.mk h4
 clear h4
 by_cases h0 : 1 ≤ n
 ·by_cases h1 : n ≤ 65535
  ·have HP : Aside0 (funcsE n = 0) := ⟨if_pos ⟨h0, h1⟩⟩
   go_enter Tryd.func45, Tryd.ntmps45
   go_wp2_with (go_at_call 42; refine (must_true _ _ _).mono ?_; rintro e w' ⟨rfl, rfl⟩)
   go_end0
   exact askPost_ok HP.out (Below.refl _ _)
  ·have HP : Aside0 (funcsE n = 20) := ⟨if_neg (fun h => h1 h.2)⟩
   have h1b : decide (n ≤ 65535) = false := decide_eq_false h1
   clear h1
   go_enter Tryd.func45, Tryd.ntmps45
   go_wp2_with (go_at_call 42; refine (must_false _ _ _ _ H4.out).mono ?_; rintro e w' ⟨rfl, rfl⟩)
   exact ⟨rfl, askPost_no HP.out (by decide) (Below.refl _ _)⟩
 ·have HP : Aside0 (funcsE n = 20) := ⟨if_neg (fun h => h0 h.1)⟩
  have h0b : decide (1 ≤ n) = false := decide_eq_false h0
  clear h0
  go_enter Tryd.func45, Tryd.ntmps45
  go_wp2_with (go_at_call 42; refine (must_false _ _ _ _ H4.out).mono ?_; rintro e w' ⟨rfl, rfl⟩)
  exact ⟨rfl, askPost_no HP.out (by decide) (Below.refl _ _)⟩
def headB (P R V n : Int) : Bool := decide (0 ≤ P) && (decide (P ≤ 8) && (decide (P ≤ V) && (decide (0 ≤ R) && (decide (R ≤ 4) && (decide (V ≤ 255) && decide (n ≤ 4096))))))
def headE (locs P R V n : Int) : Int := if headB P R V n = true then (if 1 ≤ n then (if locs + V < 1048576 then 0 else 21) else 19) else 20
def HeadPost (Wz w : World) (g : Nat) (ty : TypeId) (rest : List Value) (G : Int) (A : Option Addr) (m c B : Nat) (locs V at_ er : Int) (e : Ending) (w' : World) : Prop :=
 e = (if er = 0 then .returned (.tuple #[]) else .panicked [{ v := stopV er at_, recovered := false }]) ∧ (er = 0 → AskW w' g ty rest G A m c B (locs + V) at_) ∧ Below Wz.heap.size Wz w' ∧ KeepBut w w' g none
theorem headPost_no {Wz w w' : World} {g : Nat} {ty : TypeId} {rest : List Value} {G : Int} {A : Option Addr} {m c B : Nat} {locs V at_ er k : Int} (h : er = k) (hk : k ≠ 0) (hz : Below Wz.heap.size Wz w') (hp : KeepBut w w' g none) : HeadPost Wz w g ty rest G A m c B locs V at_ er (.panicked [{ v := stopV k at_, recovered := false }]) w' :=
 ⟨by rw [h, if_neg hk], fun h0 => absurd (h.symm.trans h0) hk, hz, hp⟩
set_option maxRecDepth 100000 in
set_option maxHeartbeats 8000000 in
theorem head_any (g : Nat) (qf : Addr) (ty : TypeId) (rest : List Value) (G : Int) (A : Option Addr) (m c B : Nat) (locs P R V n at_ : Int) (Wz w : World) (hz : Below Wz.heap.size Wz w) (hg : Wz.heap.size ≤ g) (hA : AskW w g ty rest G A m c B locs at_) (hl0 : 0 ≤ locs) (hl1 : locs < 1048576)
  (hP : w.cell? qf = some (.int .i64 P)) (hR : w.cell? ⟨qf.block, qf.off + 1, none⟩ = some (.int .i64 R)) (hV : w.cell? ⟨qf.block, qf.off + 2, none⟩ = some (.int .i64 V)) :
  Calls Tryd.prog 58 #[.pointer (some ⟨g, 0, none⟩), .pointer (some qf), .int .i64 n] w fun e w' => HeadPost Wz w g ty rest G A m c B locs V at_ (headE locs P R V n) e w' := by
 have H4 : Aside0 (w.drew.cell? ⟨g, 4, none⟩ = some (.int .i64 at_)) := ⟨hA.c4⟩
 have HA := Aside0.mk hA
 have h3 := hA.c3
 have HZ := Aside0.mk hz
 have HG := Aside0.mk hg
 have HL := Aside0.mk (And.intro hl0 hl1)
 clear hA hz hg hl0 hl1
 by_cases c0 : 0 ≤ P
 ·skip
  obtain ⟨mv, hmv⟩ : ∃ mv, (if V < 8 then V else 8) = mv := ⟨_, rfl⟩
  go_enter Tryd.func58, Tryd.ntmps58
  go_wp2_with fail
  refine start_ (n := 18) (S := fun w' => w'.cell? qf = some (.int .i64 P) ∧ w'.cell? ⟨qf.block, qf.off + 2, none⟩ = some (.int .i64 V)) (ds := []) #[false, false, false, false, false, false, false, false, false, false, false, false, false, false, false, false, false, false] (by kernel_rfl) rfl rfl ⟨hP, hV⟩ (fun hHeld => ?_)
  refine with_tabW TAB_58.tab0 TAB_58.bits0 (fun HT_ HW_ => ?_)
  refine pq 0 (some 7) (v := ?_) (a' := ?_) rfl rfl (any_of HT_.out (by kernel_rfl)) (fun _ _ _ h => h) (Or.inl ⟨by rfl, ?_⟩) ?_ ?_
  rotate_left; (intro w'; go_simp; with_reducible rfl); rotate_left; (simp only [Act.put, pn, i64_w, i32_w]; rfl)
  refine pq 1 (some 8) (v := ?_) (a' := ?_) rfl rfl (any_of HT_.out (by kernel_rfl)) (fun _ _ _ h => h) (Or.inl ⟨by rfl, ?_⟩) ?_ ?_
  rotate_left; (intro w'; go_simp; with_reducible rfl); rotate_left; (simp only [Act.put, pn, i64_w, i32_w]; rfl)
  refine pq 2 (some 9) (v := ?_) (a' := ?_) rfl rfl (any_of HT_.out (by kernel_rfl)) (fun _ _ _ h => h) (Or.inl ⟨by rfl, ?_⟩) ?_ ?_
  rotate_left; (intro w'; go_simp; with_reducible rfl); rotate_left; (simp only [Act.put, pn, i64_w, i32_w]; rfl)
  refine pt 3 (some 10) (v := ?_) (a' := ?_) rfl rfl (take_ofW HT_.out HW_.out (by kernel_rfl)) (fun _ _ _ h => h) (Or.inl ⟨by rfl, ?_⟩) hHeld ?_ ?_
  rotate_left; (rintro w' ⟨s0, s1⟩; go_simp; with_reducible rfl); rotate_left; (simp only [Act.put, pn, i64_w, i32_w]; rfl)
  refine pq 4 (some 11) (v := ?_) (a' := ?_) rfl rfl (any_of HT_.out (by kernel_rfl)) (fun _ _ _ h => h) (Or.inl ⟨by rfl, ?_⟩) ?_ ?_
  rotate_left; (intro w'; go_simp; with_reducible rfl); rotate_left; (simp only [Act.put, pn, i64_w, i32_w]; rfl)
  refine pq 5 (some 12) (v := ?_) (a' := ?_) rfl rfl (any_of HT_.out (by kernel_rfl)) (fun _ _ _ h => h) (Or.inl ⟨by rfl, ?_⟩) ?_ ?_
  rotate_left; (intro w'; go_simp; with_reducible rfl); rotate_left; (simp only [Act.put, pn, i64_w, i32_w]; rfl)
  refine pq 6 (some 13) (v := ?_) (a' := ?_) rfl rfl (any_of HT_.out (by kernel_rfl)) (fun _ _ _ h => h) (Or.inl ⟨by rfl, ?_⟩) ?_ ?_
  rotate_left; (intro w'; go_simp; with_reducible rfl); rotate_left; (simp only [Act.put, pn, i64_w, i32_w]; rfl)
  refine pq 7 (some 14) (v := ?_) (a' := ?_) rfl rfl (any_of HT_.out (by kernel_rfl)) (fun _ _ _ h => h) (Or.inl ⟨by rfl, ?_⟩) ?_ ?_
  rotate_left; (intro w'; go_simp; with_reducible rfl); rotate_left; (simp only [Act.put, pn, i64_w, i32_w]; rfl)
  refine pq 8 (some 15) (v := ?_) (a' := ?_) rfl rfl (any_of HT_.out (by kernel_rfl)) (fun _ _ _ h => h) (Or.inl ⟨by rfl, ?_⟩) ?_ ?_
  rotate_left; (intro w'; go_simp; with_reducible rfl); rotate_left; (simp only [Act.put, pn, i64_w, i32_w]; rfl)
  refine pq 10 (some 17) (v := ?_) (a' := ?_) rfl rfl (any_of HT_.out (by kernel_rfl)) (fun _ _ _ h => h) (Or.inl ⟨by rfl, ?_⟩) ?_ ?_
  rotate_left; (intro w'; go_simp; with_reducible rfl); rotate_left; (simp only [Act.put, pn, i64_w, i32_w]; rfl)
  refine pq 11 (some 18) (v := ?_) (a' := ?_) rfl rfl (any_of HT_.out (by kernel_rfl)) (fun _ _ _ h => h) (Or.inl ⟨by rfl, ?_⟩) ?_ ?_
  rotate_left; (intro w'; go_simp; with_reducible rfl); rotate_left; (simp only [Act.put, pn, i64_w, i32_w]; rfl)
  refine pq 12 (some 19) (v := ?_) (a' := ?_) rfl rfl (any_of HT_.out (by kernel_rfl)) (fun _ _ _ h => h) (Or.inl ⟨by rfl, ?_⟩) ?_ ?_
  rotate_left; (intro w'; go_simp; with_reducible rfl); rotate_left; (simp only [Act.put, pn, i64_w, i32_w]; rfl)
  refine pt 9 (some 16) (v := ?_) (a' := ?_) rfl rfl (take_ofW HT_.out HW_.out (by kernel_rfl)) (fun _ _ _ h => h) (Or.inl ⟨by rfl, ?_⟩) hHeld ?_ ?_
  rotate_left; (rintro w' ⟨s0, s1⟩; go_simp; with_reducible rfl); rotate_left; (simp only [Act.put, pn, i64_w, i32_w]; rfl)
  refine pt 13 (some 20) (v := ?_) (a' := ?_) rfl rfl (take_ofW HT_.out HW_.out (by kernel_rfl)) (fun _ _ _ h => h) (Or.inl ⟨by rfl, ?_⟩) hHeld ?_ ?_
  rotate_left; (rintro w' ⟨s0, s1⟩; go_simp; with_reducible rfl); rotate_left; (simp only [Act.put, pn, i64_w, i32_w]; rfl)
  refine pq 14 (some 21) (v := ?_) (a' := ?_) rfl rfl (any_of HT_.out (by kernel_rfl)) (fun _ _ _ h => h) (Or.inl ⟨by rfl, ?_⟩) ?_ ?_
  rotate_left; (intro w'; go_simp; with_reducible rfl); rotate_left; (simp only [Act.put, pn, i64_w, i32_w]; rfl)
  refine pq 15 (some 22) (v := ?_) (a' := ?_) rfl rfl (any_of HT_.out (by kernel_rfl)) (fun _ _ _ h => h) (Or.inl ⟨by rfl, ?_⟩) ?_ ?_
  rotate_left; (intro w'; go_simp; with_reducible rfl); rotate_left; (simp only [Act.put, pn, i64_w, i32_w]; rfl)
  refine pq 16 (some 23) (v := ?_) (a' := ?_) rfl rfl (any_of HT_.out (by kernel_rfl)) (fun _ _ _ h => h) (Or.inl ⟨by rfl, ?_⟩) ?_ ?_
  rotate_left; (intro w'; go_simp; with_reducible rfl); rotate_left; (simp only [Act.put, pn, i64_w, i32_w]; rfl)
  refine pq 17 (some 6) (v := ?_) (a' := ?_) rfl rfl (any_of HT_.out (by kernel_rfl)) (fun _ _ _ h => h) (Or.inl ⟨by rfl, ?_⟩) ?_ ?_
  rotate_left; (intro w'; go_simp; with_reducible rfl); rotate_left; (simp only [Act.put, pn, i64_w, i32_w]; rfl)
  refine done_ (done_of HT_.out (by kernel_rfl)) ?_
  clear hHeld HT_ HW_
  by_cases c1 : P ≤ 8
  ·skip
   by_cases c2 : P ≤ V
   ·skip
    by_cases c3 : 0 ≤ R
    ·skip
     by_cases c4 : R ≤ 4
     ·skip
      by_cases c5 : V ≤ 255
      ·skip
       by_cases c6 : n ≤ 4096
       ·skip
        by_cases c7 : 1 ≤ n
        ·skip
         have hmn : decide (P ≤ mv) = true := by rw [← hmv]; split <;> simp <;> omega
         have hwl : wrap64 (locs + V) = locs + V := wrap_in (by have := HL.out; omega) (by have := HL.out; omega)
         clear hmv
         go_wp2_with fail
         clear hmn
         refine (must_true _ _ _).mono ?_
         rintro e w' ⟨rfl, rfl⟩
         go_wp2_with fail
         refine (must_true _ _ _).mono ?_
         rintro e w' ⟨rfl, rfl⟩
         go_wp2_with fail
         refine start_ (n := 12) (S := fun w' => w'.cell? ⟨g, 3, none⟩ = some (.int .i64 locs) ∧ w'.cell? ⟨qf.block, qf.off + 2, none⟩ = some (.int .i64 V)) (ds := [11]) #[false, false, false, false, false, false, false, false, false, false, false, false] (by kernel_rfl) rfl rfl ⟨h3, hV⟩ (fun hHeld => ?_)
         refine with_tabW TAB_58.tab3 TAB_58.bits3 (fun HT_ HW_ => ?_)
         refine pq 0 (some 56) (v := ?_) (a' := ?_) rfl rfl (any_of HT_.out (by kernel_rfl)) (fun _ _ _ h => h) (Or.inl ⟨by rfl, ?_⟩) ?_ ?_
         rotate_left; (intro w'; go_simp; with_reducible rfl); rotate_left; (simp only [Act.put, pn, i64_w, i32_w]; rfl)
         refine pq 1 (some 57) (v := ?_) (a' := ?_) rfl rfl (any_of HT_.out (by kernel_rfl)) (fun _ _ _ h => h) (Or.inl ⟨by rfl, ?_⟩) ?_ ?_
         rotate_left; (intro w'; go_simp; with_reducible rfl); rotate_left; (simp only [Act.put, pn, i64_w, i32_w]; rfl)
         refine pq 2 (some 58) (v := ?_) (a' := ?_) rfl rfl (any_of HT_.out (by kernel_rfl)) (fun _ _ _ h => h) (Or.inl ⟨by rfl, ?_⟩) ?_ ?_
         rotate_left; (intro w'; go_simp; with_reducible rfl); rotate_left; (simp only [Act.put, pn, i64_w, i32_w]; rfl)
         refine pq 4 (some 60) (v := ?_) (a' := ?_) rfl rfl (any_of HT_.out (by kernel_rfl)) (fun _ _ _ h => h) (Or.inl ⟨by rfl, ?_⟩) ?_ ?_
         rotate_left; (intro w'; go_simp; with_reducible rfl); rotate_left; (simp only [Act.put, pn, i64_w, i32_w]; rfl)
         refine pq 5 (some 61) (v := ?_) (a' := ?_) rfl rfl (any_of HT_.out (by kernel_rfl)) (fun _ _ _ h => h) (Or.inl ⟨by rfl, ?_⟩) ?_ ?_
         rotate_left; (intro w'; go_simp; with_reducible rfl); rotate_left; (simp only [Act.put, pn, i64_w, i32_w]; rfl)
         refine pq 6 (some 62) (v := ?_) (a' := ?_) rfl rfl (any_of HT_.out (by kernel_rfl)) (fun _ _ _ h => h) (Or.inl ⟨by rfl, ?_⟩) ?_ ?_
         rotate_left; (intro w'; go_simp; with_reducible rfl); rotate_left; (simp only [Act.put, pn, i64_w, i32_w]; rfl)
         refine pt 3 (some 59) (v := ?_) (a' := ?_) rfl rfl (take_ofW HT_.out HW_.out (by kernel_rfl)) (fun _ _ _ h => h) (Or.inl ⟨by rfl, ?_⟩) hHeld ?_ ?_
         rotate_left; (rintro w' ⟨s0, s1⟩; go_simp; with_reducible rfl); rotate_left; (simp only [Act.put, pn, i64_w, i32_w]; rfl)
         refine pt 7 (some 63) (v := ?_) (a' := ?_) rfl rfl (take_ofW HT_.out HW_.out (by kernel_rfl)) (fun _ _ _ h => h) (Or.inl ⟨by rfl, ?_⟩) hHeld ?_ ?_
         rotate_left; (rintro w' ⟨s0, s1⟩; go_simp; with_reducible rfl); rotate_left; (simp only [Act.put, pn, i64_w, i32_w]; rfl)
         refine pq 8 (some 64) (v := ?_) (a' := ?_) rfl rfl (any_of HT_.out (by kernel_rfl)) (fun _ _ _ h => h) (Or.inl ⟨by rfl, ?_⟩) ?_ ?_
         rotate_left; (intro w'; go_simp; with_reducible rfl); rotate_left; (simp only [Act.put, pn, i64_w, i32_w]; rfl)
         refine pq 9 (some 65) (v := ?_) (a' := ?_) rfl rfl (any_of HT_.out (by kernel_rfl)) (fun _ _ _ h => h) (Or.inl ⟨by rfl, ?_⟩) ?_ ?_
         rotate_left; (intro w'; go_simp; with_reducible rfl); rotate_left; (simp only [Act.put, pn, i64_w, i32_w]; rfl)
         refine pq 10 (some 66) (v := ?_) (a' := ?_) rfl rfl (any_of HT_.out (by kernel_rfl)) (fun _ _ _ h => h) (Or.inl ⟨by rfl, ?_⟩) ?_ ?_
         rotate_left; (intro w'; go_simp; with_reducible rfl); rotate_left; (simp only [Act.put, pn, i64_w, i32_w]; rfl)
         refine last_ (i := 11) (N := none) #[true, true, true, true, true, true, true, true, true, true, true, true] rfl rfl (one_of HT_.out (by kernel_rfl)) (by decide) (fun K hK => ?_)
         have hcz : w.drew.drew.cell? ⟨g, 3, none⟩ = some (.int .i64 locs) := h3
         have hfz : w.drew.drew.frozen? ⟨g, 3, none⟩ = false := blk_frozen HA.out 3
         refine skip_ (w1 := ?_) (by rfl) rfl ?_ ?_
         rotate_left
         ·go_simp
          rfl
         clear hcz hfz
         refine hK.out _ _ ?_
         clear hK K
         refine done_ (done_of HT_.out (by kernel_rfl)) ?_
         clear HT_ HW_
         have HA2 : Aside0 (AskW ((w.setCell ⟨g, 3, none⟩ (.int .i64 (locs + V))).drew.drew) g ty rest G A m c B (locs + V) at_) := ⟨AskW.set3 HA.out _⟩
         have HZ2 : Aside0 (Below Wz.heap.size Wz ((w.setCell ⟨g, 3, none⟩ (.int .i64 (locs + V))).drew.drew)) := ⟨below_drew (below_drew (below_set HZ.out HG.out))⟩
         have HK2 : Aside0 (KeepBut w ((w.setCell ⟨g, 3, none⟩ (.int .i64 (locs + V))).drew.drew) g none) := ⟨(KeepBut.refl w g none).set_ 3 _⟩
         have h3b := HA2.out.c3
         have H4b := Aside0.mk HA2.out.c4
         obtain ⟨w2, hw2⟩ : ∃ w2, w2 = (w.setCell ⟨g, 3, none⟩ (.int .i64 (locs + V))).drew.drew := ⟨_, rfl⟩
         rw [← hw2] at HA2 HZ2 HK2 h3b H4b ⊢
         clear hw2
         by_cases c8 : locs + V < 1048576
         ·skip
          have HE : Aside0 (headE locs P R V n = 0) := ⟨by unfold headE headB; rw [if_pos (by simp only [Bool.and_eq_true, decide_eq_true_eq]; omega), if_pos c7, if_pos c8]⟩
          go_wp2_with fail
          refine (must_true _ _ _).mono ?_
          rintro e w' ⟨rfl, rfl⟩
          go_wp2_with fail
          go_end0
          exact ⟨by rw [HE.out]; rfl, fun _ => HA2.out, HZ2.out, HK2.out⟩
         ·skip
          have HE : Aside0 (headE locs P R V n = 21) := ⟨by unfold headE headB; rw [if_pos (by simp only [Bool.and_eq_true, decide_eq_true_eq]; omega), if_pos c7, if_neg c8]⟩
          have cb : decide (locs + V < 1048576) = false := decide_eq_false c8
          clear c8
          go_wp2_with fail
          refine (must_false _ _ _ _ H4b.out).mono ?_
          rintro e w' ⟨rfl, rfl⟩
          go_wp2_with fail
          exact ⟨rfl, headPost_no HE.out (by decide) HZ2.out HK2.out⟩
        ·have HE : Aside0 (headE locs P R V n = 19) := ⟨by unfold headE headB; rw [if_pos (by simp only [Bool.and_eq_true, decide_eq_true_eq]; omega), if_neg c7]⟩
         have hmn : decide (P ≤ mv) = true := by rw [← hmv]; split <;> simp <;> omega
         have cb : decide (1 ≤ n) = false := decide_eq_false c7
         clear c7
         clear hmv
         go_wp2_with fail
         refine (must_true _ _ _).mono ?_
         rintro e w' ⟨rfl, rfl⟩
         go_wp2_with fail
         refine (must_false _ _ _ _ H4.out).mono ?_
         rintro e w' ⟨rfl, rfl⟩
         go_wp2_with fail
         exact ⟨rfl, headPost_no HE.out (by decide) (below_drew HZ.out) (KeepBut.of_below (below_drew (Below.refl _ _)) _ _)⟩
       ·have HE : Aside0 (headE locs P R V n = 20) := ⟨by unfold headE headB; rw [if_neg (by simp only [Bool.and_eq_true, decide_eq_true_eq]; omega)]⟩
        have hmn : decide (P ≤ mv) = true := by rw [← hmv]; split <;> simp <;> omega
        have cb : decide (n ≤ 4096) = false := decide_eq_false c6
        clear c6
        clear hmv
        go_wp2_with fail
        refine (must_false _ _ _ _ H4.out).mono ?_
        rintro e w' ⟨rfl, rfl⟩
        go_wp2_with fail
        exact ⟨rfl, headPost_no HE.out (by decide) (below_drew HZ.out) (KeepBut.of_below (below_drew (Below.refl _ _)) _ _)⟩
      ·have HE : Aside0 (headE locs P R V n = 20) := ⟨by unfold headE headB; rw [if_neg (by simp only [Bool.and_eq_true, decide_eq_true_eq]; omega)]⟩
       have hmn : decide (P ≤ mv) = true := by rw [← hmv]; split <;> simp <;> omega
       have cb : decide (V ≤ 255) = false := decide_eq_false c5
       clear c5
       clear hmv
       go_wp2_with fail
       refine (must_false _ _ _ _ H4.out).mono ?_
       rintro e w' ⟨rfl, rfl⟩
       go_wp2_with fail
       exact ⟨rfl, headPost_no HE.out (by decide) (below_drew HZ.out) (KeepBut.of_below (below_drew (Below.refl _ _)) _ _)⟩
     ·have HE : Aside0 (headE locs P R V n = 20) := ⟨by unfold headE headB; rw [if_neg (by simp only [Bool.and_eq_true, decide_eq_true_eq]; omega)]⟩
      have hmn : decide (P ≤ mv) = true := by rw [← hmv]; split <;> simp <;> omega
      have cb : decide (R ≤ 4) = false := decide_eq_false c4
      clear c4
      clear hmv
      go_wp2_with fail
      refine (must_false _ _ _ _ H4.out).mono ?_
      rintro e w' ⟨rfl, rfl⟩
      go_wp2_with fail
      exact ⟨rfl, headPost_no HE.out (by decide) (below_drew HZ.out) (KeepBut.of_below (below_drew (Below.refl _ _)) _ _)⟩
    ·have HE : Aside0 (headE locs P R V n = 20) := ⟨by unfold headE headB; rw [if_neg (by simp only [Bool.and_eq_true, decide_eq_true_eq]; omega)]⟩
     have hmn : decide (P ≤ mv) = true := by rw [← hmv]; split <;> simp <;> omega
     have cb : decide (0 ≤ R) = false := decide_eq_false c3
     clear c3
     clear hmv
     go_wp2_with fail
     refine (must_false _ _ _ _ H4.out).mono ?_
     rintro e w' ⟨rfl, rfl⟩
     go_wp2_with fail
     exact ⟨rfl, headPost_no HE.out (by decide) (below_drew HZ.out) (KeepBut.of_below (below_drew (Below.refl _ _)) _ _)⟩
   ·have HE : Aside0 (headE locs P R V n = 20) := ⟨by unfold headE headB; rw [if_neg (by simp only [Bool.and_eq_true, decide_eq_true_eq]; omega)]⟩
    have hmn : decide (P ≤ mv) = false := by rw [← hmv]; split <;> simp <;> omega
    clear c2
    clear c1
    clear hmv
    go_wp2_with fail
    refine (must_false _ _ _ _ H4.out).mono ?_
    rintro e w' ⟨rfl, rfl⟩
    go_wp2_with fail
    exact ⟨rfl, headPost_no HE.out (by decide) (below_drew HZ.out) (KeepBut.of_below (below_drew (Below.refl _ _)) _ _)⟩
  ·have HE : Aside0 (headE locs P R V n = 20) := ⟨by unfold headE headB; rw [if_neg (by simp only [Bool.and_eq_true, decide_eq_true_eq]; omega)]⟩
   have hmn : decide (P ≤ mv) = false := by rw [← hmv]; split <;> simp <;> omega
   clear c1
   clear hmv
   go_wp2_with fail
   refine (must_false _ _ _ _ H4.out).mono ?_
   rintro e w' ⟨rfl, rfl⟩
   go_wp2_with fail
   exact ⟨rfl, headPost_no HE.out (by decide) (below_drew HZ.out) (KeepBut.of_below (below_drew (Below.refl _ _)) _ _)⟩
 ·have HE : Aside0 (headE locs P R V n = 20) := ⟨by unfold headE headB; rw [if_neg (by simp only [Bool.and_eq_true, decide_eq_true_eq]; omega)]⟩
  obtain ⟨mv, hmv⟩ : ∃ mv, (if V < 8 then V else 8) = mv := ⟨_, rfl⟩
  have cb : decide (0 ≤ P) = false := decide_eq_false c0
  clear c0
  go_enter Tryd.func58, Tryd.ntmps58
  go_wp2_with fail
  refine start_ (n := 18) (S := fun w' => w'.cell? qf = some (.int .i64 P) ∧ w'.cell? ⟨qf.block, qf.off + 2, none⟩ = some (.int .i64 V)) (ds := []) #[false, false, false, false, false, false, false, false, false, false, false, false, false, false, false, false, false, false] (by kernel_rfl) rfl rfl ⟨hP, hV⟩ (fun hHeld => ?_)
  refine with_tabW TAB_58.tab0 TAB_58.bits0 (fun HT_ HW_ => ?_)
  refine pq 0 (some 7) (v := ?_) (a' := ?_) rfl rfl (any_of HT_.out (by kernel_rfl)) (fun _ _ _ h => h) (Or.inl ⟨by rfl, ?_⟩) ?_ ?_
  rotate_left; (intro w'; go_simp; with_reducible rfl); rotate_left; (simp only [Act.put, pn, i64_w, i32_w]; rfl)
  refine pq 1 (some 8) (v := ?_) (a' := ?_) rfl rfl (any_of HT_.out (by kernel_rfl)) (fun _ _ _ h => h) (Or.inl ⟨by rfl, ?_⟩) ?_ ?_
  rotate_left; (intro w'; go_simp; with_reducible rfl); rotate_left; (simp only [Act.put, pn, i64_w, i32_w]; rfl)
  refine pq 2 (some 9) (v := ?_) (a' := ?_) rfl rfl (any_of HT_.out (by kernel_rfl)) (fun _ _ _ h => h) (Or.inl ⟨by rfl, ?_⟩) ?_ ?_
  rotate_left; (intro w'; go_simp; with_reducible rfl); rotate_left; (simp only [Act.put, pn, i64_w, i32_w]; rfl)
  refine pt 3 (some 10) (v := ?_) (a' := ?_) rfl rfl (take_ofW HT_.out HW_.out (by kernel_rfl)) (fun _ _ _ h => h) (Or.inl ⟨by rfl, ?_⟩) hHeld ?_ ?_
  rotate_left; (rintro w' ⟨s0, s1⟩; go_simp; with_reducible rfl); rotate_left; (simp only [Act.put, pn, i64_w, i32_w]; rfl)
  refine pq 4 (some 11) (v := ?_) (a' := ?_) rfl rfl (any_of HT_.out (by kernel_rfl)) (fun _ _ _ h => h) (Or.inl ⟨by rfl, ?_⟩) ?_ ?_
  rotate_left; (intro w'; go_simp; with_reducible rfl); rotate_left; (simp only [Act.put, pn, i64_w, i32_w]; rfl)
  refine pq 5 (some 12) (v := ?_) (a' := ?_) rfl rfl (any_of HT_.out (by kernel_rfl)) (fun _ _ _ h => h) (Or.inl ⟨by rfl, ?_⟩) ?_ ?_
  rotate_left; (intro w'; go_simp; with_reducible rfl); rotate_left; (simp only [Act.put, pn, i64_w, i32_w]; rfl)
  refine pure_ (i := 6) (N := some 13) (v := undef) (a' := ?_) #[true, true, true, true, true, true, true, false, false, false, false, false, false, false, false, false, false, false] rfl rfl (any_of HT_.out (by kernel_rfl)) (fun _ _ _ h => h) (Or.inr ⟨by rfl, rfl⟩) ?_ ?_
  rotate_left
  ·simp only [Act.put, pn, i64_w, i32_w]
   rfl
  refine pure_ (i := 7) (N := some 14) (v := undef) (a' := ?_) #[true, true, true, true, true, true, true, true, false, false, false, false, false, false, false, false, false, false] rfl rfl (any_of HT_.out (by kernel_rfl)) (fun _ _ _ h => h) (Or.inr ⟨by rfl, rfl⟩) ?_ ?_
  rotate_left
  ·simp only [Act.put, pn, i64_w, i32_w]
   rfl
  refine pure_ (i := 8) (N := some 15) (v := undef) (a' := ?_) #[true, true, true, true, true, true, true, true, true, false, false, false, false, false, false, false, false, false] rfl rfl (any_of HT_.out (by kernel_rfl)) (fun _ _ _ h => h) (Or.inr ⟨by rfl, rfl⟩) ?_ ?_
  rotate_left
  ·simp only [Act.put, pn, i64_w, i32_w]
   rfl
  refine pure_ (i := 9) (N := some 16) (v := undef) (a' := ?_) #[true, true, true, true, true, true, true, true, true, true, false, false, false, false, false, false, false, false] rfl rfl (any_of HT_.out (by kernel_rfl)) (fun _ _ _ h => h) (Or.inr ⟨by rfl, rfl⟩) ?_ ?_
  rotate_left
  ·simp only [Act.put, pn, i64_w, i32_w]
   rfl
  refine pure_ (i := 10) (N := some 17) (v := undef) (a' := ?_) #[true, true, true, true, true, true, true, true, true, true, true, false, false, false, false, false, false, false] rfl rfl (any_of HT_.out (by kernel_rfl)) (fun _ _ _ h => h) (Or.inr ⟨by rfl, rfl⟩) ?_ ?_
  rotate_left
  ·simp only [Act.put, pn, i64_w, i32_w]
   rfl
  refine pure_ (i := 11) (N := some 18) (v := undef) (a' := ?_) #[true, true, true, true, true, true, true, true, true, true, true, true, false, false, false, false, false, false] rfl rfl (any_of HT_.out (by kernel_rfl)) (fun _ _ _ h => h) (Or.inr ⟨by rfl, rfl⟩) ?_ ?_
  rotate_left
  ·simp only [Act.put, pn, i64_w, i32_w]
   rfl
  refine pure_ (i := 12) (N := some 19) (v := undef) (a' := ?_) #[true, true, true, true, true, true, true, true, true, true, true, true, true, false, false, false, false, false] rfl rfl (any_of HT_.out (by kernel_rfl)) (fun _ _ _ h => h) (Or.inr ⟨by rfl, rfl⟩) ?_ ?_
  rotate_left
  ·simp only [Act.put, pn, i64_w, i32_w]
   rfl
  refine pure_ (i := 13) (N := some 20) (v := undef) (a' := ?_) #[true, true, true, true, true, true, true, true, true, true, true, true, true, true, false, false, false, false] rfl rfl (any_of HT_.out (by kernel_rfl)) (fun _ _ _ h => h) (Or.inr ⟨by rfl, rfl⟩) ?_ ?_
  rotate_left
  ·simp only [Act.put, pn, i64_w, i32_w]
   rfl
  refine pure_ (i := 14) (N := some 21) (v := undef) (a' := ?_) #[true, true, true, true, true, true, true, true, true, true, true, true, true, true, true, false, false, false] rfl rfl (any_of HT_.out (by kernel_rfl)) (fun _ _ _ h => h) (Or.inr ⟨by rfl, rfl⟩) ?_ ?_
  rotate_left
  ·simp only [Act.put, pn, i64_w, i32_w]
   rfl
  refine pure_ (i := 15) (N := some 22) (v := undef) (a' := ?_) #[true, true, true, true, true, true, true, true, true, true, true, true, true, true, true, true, false, false] rfl rfl (any_of HT_.out (by kernel_rfl)) (fun _ _ _ h => h) (Or.inr ⟨by rfl, rfl⟩) ?_ ?_
  rotate_left
  ·simp only [Act.put, pn, i64_w, i32_w]
   rfl
  refine pq 16 (some 23) (v := ?_) (a' := ?_) rfl rfl (any_of HT_.out (by kernel_rfl)) (fun _ _ _ h => h) (Or.inl ⟨by rfl, ?_⟩) ?_ ?_
  rotate_left; (intro w'; go_simp; with_reducible rfl); rotate_left; (simp only [Act.put, pn, i64_w, i32_w]; rfl)
  refine pq 17 (some 6) (v := ?_) (a' := ?_) rfl rfl (any_of HT_.out (by kernel_rfl)) (fun _ _ _ h => h) (Or.inl ⟨by rfl, ?_⟩) ?_ ?_
  rotate_left; (intro w'; go_simp; with_reducible rfl); rotate_left; (simp only [Act.put, pn, i64_w, i32_w]; rfl)
  refine done_ (done_of HT_.out (by kernel_rfl)) ?_
  clear hHeld HT_ HW_
  clear hmv
  go_wp2_with fail
  refine (must_false _ _ _ _ H4.out).mono ?_
  rintro e w' ⟨rfl, rfl⟩
  go_wp2_with fail
  exact ⟨rfl, headPost_no HE.out (by decide) (below_drew HZ.out) (KeepBut.of_below (below_drew (Below.refl _ _)) _ _)⟩
end Go.Proofs.YteonppgdmhakoaaDoor.PC
namespace Go.Proofs.YteonppgdmhakoaaDoor.PC
open Go.RowKit Go.Proofs.YteonppgdmhakoaaDoorW.PrintWords Go.Proofs.YteonppgdmhakoaaDoorW.PrintLast Go.Proofs.YteonppgdmhakoaaDoorW.PrintMore
set_option linter.unusedVariables false
set_option linter.unusedSimpArgs false
def TAB_59.T0 : Bool × List (List Nat × List Nat) := (true, [([], []), ([], []), ([1], [1]), ([2], [2]), ([3], [3]), ([4], [4]), ([5], [5]), ([6], [6]), ([7, 6], [6, 7]), ([8, 6], [6, 8]), ([9, 6], [6, 9]), ([6], [6]), ([11, 6], [6, 11]), ([12, 6], [6, 12]), ([13, 6], [6, 13]), ([14, 6], [6, 14]), ([10, 15, 6], [6, 10, 15]), ([6, 16], [6, 16]), ([0, 17, 6], [0, 17])])
def TAB_59.B0 : List Nat := [0, 0, 2, 6, 14, 30, 62, 126, 254, 510, 1022, 126, 2174, 6270, 14462, 30846, 65534, 131070, 262143]
theorem TAB_59.tab0 : rtab .any (opsOf Tryd.f59 0) = TAB_59.T0 := by kernel_rfl
theorem TAB_59.bits0 : waitsOk TAB_59.T0.2 TAB_59.B0 = true := by kernel_rfl
def TAB_59.T1 : Bool × List (List Nat × List Nat) := (true, [([], []), ([], []), ([1], [1]), ([2], [2]), ([3], [3]), ([], []), ([5], [5]), ([6], [6]), ([7], [7]), ([4, 8], [4, 8]), ([9], [9]), ([], []), ([10, 11], [10, 11]), ([0, 12, 12], [0, 12])])
def TAB_59.B1 : List Nat := [0, 0, 2, 6, 14, 0, 32, 96, 224, 510, 1022, 0, 4094, 8191]
theorem TAB_59.tab1 : rtab .any (opsOf Tryd.f59 1) = TAB_59.T1 := by kernel_rfl
theorem TAB_59.bits1 : waitsOk TAB_59.T1.2 TAB_59.B1 = true := by kernel_rfl
def usesB (x : S50) : List Bool := [(x.f1 != 0), (x.f2 != 0), (x.f3 != 0), (x.f4 != 0), decide (0 < x.f5.length), decide (0 < x.f6.length)]
def opE (locs : Int) (x : S50) (last : Bool) : Int :=
 if 1 ≤ x.f0 ∧ x.f0 < 18 then (if plainB (partsOf x.f0.toNat) (usesB x) = true then (if last = false ∨ x.f0 = 13 ∨ x.f0 = 15 then (if x.f0 = 6 then (if locs + 1 < 1048576 then 0 else 21) else 0) else 19) else 1) else 12
def newL (x : S50) : Int := if x.f0 = 6 then 1 else 0
def InsW (w : World) (q : Addr) (x : S50) (A5 : Option Addr) (c5 : Nat) (A6 : Option Addr) (c6 : Nat) : Prop :=
 w.cell? q = some (.int .i64 x.f0) ∧ w.cell? ⟨q.block, q.off + 1, none⟩ = some (.int .i64 x.f1) ∧ w.cell? ⟨q.block, q.off + 2, none⟩ = some (.int .i64 x.f2) ∧ w.cell? ⟨q.block, q.off + 3, none⟩ = some (.int .i64 x.f3) ∧ w.cell? ⟨q.block, q.off + 4, none⟩ = some (.int .i64 x.f4) ∧
  w.cell? ⟨q.block, q.off + 5, none⟩ = some (.slice A5 x.f5.length c5) ∧ w.cell? ⟨q.block, q.off + 6, none⟩ = some (.slice A6 x.f6.length c6)
theorem InsW.below {w w' : World} {q : Addr} {x : S50} {A5 A6 : Option Addr} {c5 c6 : Nat} (h : InsW w q x A5 c5 A6 c6) (hb : Below w.heap.size w w') : InsW w' q x A5 c5 A6 c6 :=
 ⟨pw_cell_below hb h.1, pw_cell_below hb h.2.1, pw_cell_below hb h.2.2.1, pw_cell_below hb h.2.2.2.1, pw_cell_below hb h.2.2.2.2.1, pw_cell_below hb h.2.2.2.2.2.1, pw_cell_below hb h.2.2.2.2.2.2⟩
theorem plain_ins {w : World} {q : Addr} {x : S50} {A5 A6 : Option Addr} {c5 c6 : Nat} {b : Nat} {ks : List PK} (hr : RowIs w b ks) (hk : ks.length ≤ 3) (h : InsW w q x A5 c5 A6 c6) :
  Calls Tryd.prog 92 #[.slice (some ⟨b, 0, none⟩) ks.length ks.length, .pointer (some q)] w fun e w' => e = .returned (.bool (plainB ks (usesB x))) ∧ Below w.heap.size w w' :=
 plain_any ks b q x A5 A6 _ c5 _ c6 w hr hk h.2.1 h.2.2.1 h.2.2.2.1 h.2.2.2.2.1 h.2.2.2.2.2.1 h.2.2.2.2.2.2
theorem parts_le (op : Nat) : (partsOf op).length ≤ 3 := by
 unfold partsOf
 rcases op with _ | _ | _ | _ | _ | _ | _ | _ | _ | _ | _ | _ | _ | _ | _ | _ | _ | _ | op <;> simp
set_option maxRecDepth 100000 in
set_option maxHeartbeats 16000000 in
theorem op_any (g : Nat) (qx : Addr) (ty : TypeId) (rest : List Value) (G : Int) (A : Option Addr) (m c B : Nat) (locs at_ : Int) (x : S50) (A5 : Option Addr) (c5 : Nat) (A6 : Option Addr) (c6 : Nat) (last : Bool) (Wz w : World) (hz : Below Wz.heap.size Wz w) (hg : Wz.heap.size ≤ g) (hA : AskW w g ty rest G A m c B locs at_) (hl0 : 0 ≤ locs) (hl1 : locs < 1048576) (hO : OpsAt w B) (hx : InsW w qx x A5 c5 A6 c6) :
  Calls Tryd.prog 59 #[.pointer (some ⟨g, 0, none⟩), .pointer (some qx), .bool last] w fun e w' => HeadPost Wz w g ty rest G A m c B locs (newL x) at_ (opE locs x last) e w' := by
 have H4 : Aside0 (w.drew.cell? ⟨g, 4, none⟩ = some (.int .i64 at_)) := ⟨hA.c4⟩
 have h2 := hA.c2
 have hx0 := hx.1
 have HA := Aside0.mk hA
 have HZ := Aside0.mk hz
 have HG := Aside0.mk hg
 have HL := Aside0.mk (And.intro hl0 hl1)
 have HO := Aside0.mk hO
 have HX := Aside0.mk hx
 clear hA hz hg hl0 hl1 hO hx
 by_cases c0 : 1 ≤ x.f0
 ·by_cases c1 : x.f0 < 18
  ·have HC := Aside0.mk (And.intro c0 c1)
   obtain ⟨op, hop⟩ : ∃ op : Nat, x.f0 = (op : Int) := ⟨x.f0.toNat, by omega⟩
   obtain ⟨b, hrow, hR⟩ := HO.out op (by omega) (by omega)
   have HF := Aside0.mk hop
   obtain ⟨pb, hpb⟩ : ∃ pb, pb = plainB (partsOf op) (usesB x) := ⟨_, rfl⟩
   have Hpn : Aside0 (plainB (partsOf x.f0.toNat) (usesB x) = pb) := ⟨by rw [hop, Int.toNat_natCast, hpb]⟩
   have HPl : Aside0 (Calls Tryd.prog 92 #[.slice (some ⟨b, 0, none⟩) (partsOf op).length (partsOf op).length, .pointer (some qx)] w.drew.drew fun e w' => e = .returned (.bool pb) ∧ Below w.drew.drew.heap.size w.drew.drew w') := ⟨by rw [hpb]; exact plain_ins (hR.below (below_drew (below_drew (Below.refl _ _)))) (parts_le op) (HX.out.below (below_drew (below_drew (Below.refl _ _))))⟩
   rw [hop] at hx0 c0 c1
   obtain ⟨n, hn⟩ : ∃ n, n = (partsOf op).length := ⟨_, rfl⟩
   rw [← hn] at hrow HPl
   clear hn hR hpb hop HO
   cases pb with
   | false =>
    have HE : Aside0 (opE locs x last = 1) := ⟨by unfold opE; rw [if_pos HC.out, if_neg (by rw [Hpn.out]; decide)]⟩
    go_enter Tryd.func59, Tryd.ntmps59
    go_wp2_with fail
    refine start_ (n := 19) (S := fun w' => w'.cell? qx = some (.int .i64 (op : Int)) ∧ w'.cell? ⟨g, 2, none⟩ = some (.slice (some ⟨B, 0, none⟩) 18 18)) (ds := []) #[false, false, false, false, false, false, false, false, false, false, false, false, false, false, false, false, false, false, false] (by kernel_rfl) rfl rfl ⟨hx0, h2⟩ (fun hHeld => ?_)
    refine with_tabW TAB_59.tab0 TAB_59.bits0 (fun HT_ HW_ => ?_)
    refine pq 0 (some 6) (v := ?_) (a' := ?_) rfl rfl (any_of HT_.out (by kernel_rfl)) (fun _ _ _ h => h) (Or.inl ⟨by rfl, ?_⟩) ?_ ?_
    rotate_left; (intro w'; go_simp; with_reducible rfl); rotate_left; (simp only [Act.put, pn, i64_w, i32_w]; rfl)
    refine pq 1 (some 7) (v := ?_) (a' := ?_) rfl rfl (any_of HT_.out (by kernel_rfl)) (fun _ _ _ h => h) (Or.inl ⟨by rfl, ?_⟩) ?_ ?_
    rotate_left; (intro w'; go_simp; with_reducible rfl); rotate_left; (simp only [Act.put, pn, i64_w, i32_w]; rfl)
    refine pq 2 (some 8) (v := ?_) (a' := ?_) rfl rfl (any_of HT_.out (by kernel_rfl)) (fun _ _ _ h => h) (Or.inl ⟨by rfl, ?_⟩) ?_ ?_
    rotate_left; (intro w'; go_simp; with_reducible rfl); rotate_left; (simp only [Act.put, pn, i64_w, i32_w]; rfl)
    refine pq 3 (some 9) (v := ?_) (a' := ?_) rfl rfl (any_of HT_.out (by kernel_rfl)) (fun _ _ _ h => h) (Or.inl ⟨by rfl, ?_⟩) ?_ ?_
    rotate_left; (intro w'; go_simp; with_reducible rfl); rotate_left; (simp only [Act.put, pn, i64_w, i32_w]; rfl)
    refine pt 4 (some 10) (v := ?_) (a' := ?_) rfl rfl (take_ofW HT_.out HW_.out (by kernel_rfl)) (fun _ _ _ h => h) (Or.inl ⟨by rfl, ?_⟩) hHeld ?_ ?_
    rotate_left; (rintro w' ⟨s0, s1⟩; go_simp; with_reducible rfl); rotate_left; (simp only [Act.put, pn, i64_w, i32_w]; rfl)
    refine pq 5 (some 11) (v := ?_) (a' := ?_) rfl rfl (any_of HT_.out (by kernel_rfl)) (fun _ _ _ h => h) (Or.inl ⟨by rfl, ?_⟩) ?_ ?_
    rotate_left; (intro w'; go_simp; with_reducible rfl); rotate_left; (simp only [Act.put, pn, i64_w, i32_w]; rfl)
    refine pq 6 (some 12) (v := ?_) (a' := ?_) rfl rfl (any_of HT_.out (by kernel_rfl)) (fun _ _ _ h => h) (Or.inl ⟨by rfl, ?_⟩) ?_ ?_
    rotate_left; (intro w'; go_simp; with_reducible rfl); rotate_left; (simp only [Act.put, pn, i64_w, i32_w]; rfl)
    refine pq 7 (some 13) (v := ?_) (a' := ?_) rfl rfl (any_of HT_.out (by kernel_rfl)) (fun _ _ _ h => h) (Or.inl ⟨by rfl, ?_⟩) ?_ ?_
    rotate_left; (intro w'; go_simp; with_reducible rfl); rotate_left; (simp only [Act.put, pn, i64_w, i32_w]; rfl)
    refine pq 8 (some 14) (v := ?_) (a' := ?_) rfl rfl (any_of HT_.out (by kernel_rfl)) (fun _ _ _ h => h) (Or.inl ⟨by rfl, ?_⟩) ?_ ?_
    rotate_left; (intro w'; go_simp; with_reducible rfl); rotate_left; (simp only [Act.put, pn, i64_w, i32_w]; rfl)
    refine pq 9 (some 15) (v := ?_) (a' := ?_) rfl rfl (any_of HT_.out (by kernel_rfl)) (fun _ _ _ h => h) (Or.inl ⟨by rfl, ?_⟩) ?_ ?_
    rotate_left; (intro w'; go_simp; with_reducible rfl); rotate_left; (simp only [Act.put, pn, i64_w, i32_w]; rfl)
    refine pq 11 (some 17) (v := ?_) (a' := ?_) rfl rfl (any_of HT_.out (by kernel_rfl)) (fun _ _ _ h => h) (Or.inl ⟨by rfl, ?_⟩) ?_ ?_
    rotate_left; (intro w'; go_simp; with_reducible rfl); rotate_left; (simp only [Act.put, pn, i64_w, i32_w]; rfl)
    refine pq 12 (some 18) (v := ?_) (a' := ?_) rfl rfl (any_of HT_.out (by kernel_rfl)) (fun _ _ _ h => h) (Or.inl ⟨by rfl, ?_⟩) ?_ ?_
    rotate_left; (intro w'; go_simp; with_reducible rfl); rotate_left; (simp only [Act.put, pn, i64_w, i32_w]; rfl)
    refine pq 13 (some 19) (v := ?_) (a' := ?_) rfl rfl (any_of HT_.out (by kernel_rfl)) (fun _ _ _ h => h) (Or.inl ⟨by rfl, ?_⟩) ?_ ?_
    rotate_left; (intro w'; go_simp; with_reducible rfl); rotate_left; (simp only [Act.put, pn, i64_w, i32_w]; rfl)
    refine pt 10 (some 16) (v := ?_) (a' := ?_) rfl rfl (take_ofW HT_.out HW_.out (by kernel_rfl)) (fun _ _ _ h => h) (Or.inl ⟨by rfl, ?_⟩) hHeld ?_ ?_
    rotate_left; (rintro w' ⟨s0, s1⟩; go_simp; with_reducible rfl); rotate_left; (simp only [Act.put, pn, i64_w, i32_w]; rfl)
    refine pt 14 (some 20) (v := ?_) (a' := ?_) rfl rfl (take_ofW HT_.out HW_.out (by kernel_rfl)) (fun _ _ _ h => h) (Or.inl ⟨by rfl, ?_⟩) hHeld ?_ ?_
    rotate_left; (rintro w' ⟨s0, s1⟩; go_simp; with_reducible rfl); rotate_left; (simp only [Act.put, pn, i64_w, i32_w]; rfl)
    refine pq 15 (some 21) (v := ?_) (a' := ?_) rfl rfl (any_of HT_.out (by kernel_rfl)) (fun _ _ _ h => h) (Or.inl ⟨by rfl, ?_⟩) ?_ ?_
    rotate_left; (intro w'; go_simp; with_reducible rfl); rotate_left; (simp only [Act.put, pn, i64_w, i32_w]; rfl)
    refine pq 16 (some 22) (v := ?_) (a' := ?_) rfl rfl (any_of HT_.out (by kernel_rfl)) (fun _ _ _ h => h) (Or.inl ⟨by rfl, ?_⟩) ?_ ?_
    rotate_left; (intro w'; go_simp; with_reducible rfl); rotate_left; (simp only [Act.put, pn, i64_w, i32_w]; rfl)
    refine pq 17 (some 23) (v := ?_) (a' := ?_) rfl rfl (any_of HT_.out (by kernel_rfl)) (fun _ _ _ h => h) (Or.inl ⟨by rfl, ?_⟩) ?_ ?_
    rotate_left; (intro w'; go_simp; with_reducible rfl); rotate_left; (simp only [Act.put, pn, i64_w, i32_w]; rfl)
    refine one_ (i := 18) (N := some 24) #[true, true, true, true, true, true, true, true, true, true, true, true, true, true, true, true, true, true, true] rfl rfl (one_of HT_.out (by kernel_rfl)) (by decide) (fun K hK => ?_)
    refine goes_ Tryd.func42 (by kernel_rfl) rfl #[.pointer (some ⟨g, 0, none⟩), .bool true, .int .i64 12] (by rfl) rfl rfl (by simp only [List.map_toArray, List.map_cons, List.map_nil]; rfl) ?_
    with_reducible refine (must_true _ _ _).mono ?_
    rintro e_ wm ⟨rfl, rfl⟩
    refine ⟨_, rfl, ?_⟩
    refine hK.out _ _ ⟨hx0, h2⟩ (fun hHeld => ?_)
    clear hK K
    refine norm_ (a' := ?_) ?_ ?_
    rotate_left
    ·show Act.put _ (some 24) _ = _
     simp only [Act.put, pn, i64_w, i32_w]
     rfl
    refine done_ (done_of HT_.out (by kernel_rfl)) ?_
    clear hHeld HT_ HW_
    go_wp2_with fail
    refine start_ (n := 14) (S := fun w' => w'.cell? qx = some (.int .i64 (op : Int)) ∧ w'.cell? ⟨g, 2, none⟩ = some (.slice (some ⟨B, 0, none⟩) 18 18) ∧ w'.cell? ⟨B, op, none⟩ = some (.slice (some ⟨b, 0, none⟩) n n)) (ds := []) #[false, false, false, false, false, false, false, false, false, false, false, false, false, false] (by kernel_rfl) rfl rfl ⟨hx0, h2, hrow⟩ (fun hHeld => ?_)
    refine with_tabW TAB_59.tab1 TAB_59.bits1 (fun HT_ HW_ => ?_)
    refine pq 0 (some 25) (v := ?_) (a' := ?_) rfl rfl (any_of HT_.out (by kernel_rfl)) (fun _ _ _ h => h) (Or.inl ⟨by rfl, ?_⟩) ?_ ?_
    rotate_left; (intro w'; go_simp; with_reducible rfl); rotate_left; (simp only [Act.put, pn, i64_w, i32_w]; rfl)
    refine pq 1 (some 26) (v := ?_) (a' := ?_) rfl rfl (any_of HT_.out (by kernel_rfl)) (fun _ _ _ h => h) (Or.inl ⟨by rfl, ?_⟩) ?_ ?_
    rotate_left; (intro w'; go_simp; with_reducible rfl); rotate_left; (simp only [Act.put, pn, i64_w, i32_w]; rfl)
    refine pq 2 (some 27) (v := ?_) (a' := ?_) rfl rfl (any_of HT_.out (by kernel_rfl)) (fun _ _ _ h => h) (Or.inl ⟨by rfl, ?_⟩) ?_ ?_
    rotate_left; (intro w'; go_simp; with_reducible rfl); rotate_left; (simp only [Act.put, pn, i64_w, i32_w]; rfl)
    refine pq 3 (some 28) (v := ?_) (a' := ?_) rfl rfl (any_of HT_.out (by kernel_rfl)) (fun _ _ _ h => h) (Or.inl ⟨by rfl, ?_⟩) ?_ ?_
    rotate_left; (intro w'; go_simp; with_reducible rfl); rotate_left; (simp only [Act.put, pn, i64_w, i32_w]; rfl)
    refine pq 5 (some 30) (v := ?_) (a' := ?_) rfl rfl (any_of HT_.out (by kernel_rfl)) (fun _ _ _ h => h) (Or.inl ⟨by rfl, ?_⟩) ?_ ?_
    rotate_left; (intro w'; go_simp; with_reducible rfl); rotate_left; (simp only [Act.put, pn, i64_w, i32_w]; rfl)
    refine pq 6 (some 31) (v := ?_) (a' := ?_) rfl rfl (any_of HT_.out (by kernel_rfl)) (fun _ _ _ h => h) (Or.inl ⟨by rfl, ?_⟩) ?_ ?_
    rotate_left; (intro w'; go_simp; with_reducible rfl); rotate_left; (simp only [Act.put, pn, i64_w, i32_w]; rfl)
    refine pq 7 (some 32) (v := ?_) (a' := ?_) rfl rfl (any_of HT_.out (by kernel_rfl)) (fun _ _ _ h => h) (Or.inl ⟨by rfl, ?_⟩) ?_ ?_
    rotate_left; (intro w'; go_simp; with_reducible rfl); rotate_left; (simp only [Act.put, pn, i64_w, i32_w]; rfl)
    refine pq 11 (some 36) (v := ?_) (a' := ?_) rfl rfl (any_of HT_.out (by kernel_rfl)) (fun _ _ _ h => h) (Or.inl ⟨by rfl, ?_⟩) ?_ ?_
    rotate_left; (intro w'; go_simp; with_reducible rfl); rotate_left; (simp only [Act.put, pn, i64_w, i32_w]; rfl)
    refine pt 4 (some 29) (v := ?_) (a' := ?_) rfl rfl (take_ofW HT_.out HW_.out (by kernel_rfl)) (fun _ _ _ h => h) (Or.inl ⟨by rfl, ?_⟩) hHeld ?_ ?_
    rotate_left; (rintro w' ⟨s0, s1, s2⟩; go_simp; with_reducible rfl); rotate_left; (simp only [Act.put, pn, i64_w, i32_w]; rfl)
    refine pt 8 (some 33) (v := ?_) (a' := ?_) rfl rfl (take_ofW HT_.out HW_.out (by kernel_rfl)) (fun _ _ _ h => h) (Or.inl ⟨by rfl, ?_⟩) hHeld ?_ ?_
    rotate_left; (rintro w' ⟨s0, s1, s2⟩; go_simp; with_reducible rfl); rotate_left; (simp only [Act.put, pn, i64_w, i32_w]; rfl)
    refine pq 9 (some 34) (v := ?_) (a' := ?_) rfl rfl (any_of HT_.out (by kernel_rfl)) (fun _ _ _ h => h) (Or.inl ⟨by rfl, ?_⟩) ?_ ?_
    rotate_left; (intro w'; go_simp; with_reducible rfl); rotate_left; (simp only [Act.put, pn, i64_w, i32_w]; rfl)
    refine pt 10 (some 35) (v := ?_) (a' := ?_) rfl rfl (take_ofW HT_.out HW_.out (by kernel_rfl)) (fun _ _ _ h => h) (Or.inl ⟨by rfl, ?_⟩) hHeld ?_ ?_
    rotate_left; (rintro w' ⟨s0, s1, s2⟩; go_simp; with_reducible rfl); rotate_left; (simp only [Act.put, pn, i64_w, i32_w]; rfl)
    refine one_ (i := 12) (N := some 37) #[true, true, true, true, true, true, true, true, true, true, true, true, true, false] rfl rfl (one_of HT_.out (by kernel_rfl)) (by decide) (fun K hK => ?_)
    refine goes_ Tryd.func92 (by kernel_rfl) rfl #[.slice (some ⟨b, 0, none⟩) n n, .pointer (some qx)] (by rfl) rfl rfl (by simp only [List.map_toArray, List.map_cons, List.map_nil]; rfl) ?_
    with_reducible refine (HPl.out).mono ?_
    rintro e_ wc ⟨rfl, hb⟩
    refine ⟨_, rfl, ?_⟩
    have HB := Aside0.mk hb
    have H4c : Aside0 (wc.cell? ⟨g, 4, none⟩ = some (.int .i64 at_)) := ⟨pw_cell_below hb H4.out⟩
    clear hb
    refine hK.out _ _ ⟨pw_cell_below HB.out hx0, pw_cell_below HB.out h2, pw_cell_below HB.out hrow⟩ (fun hHeld => ?_)
    clear hK K
    refine norm_ (a' := ?_) ?_ ?_
    rotate_left
    ·show Act.put _ (some 37) _ = _
     simp only [Act.put, pn, i64_w, i32_w]
     rfl
    refine one_ (i := 13) (N := some 38) #[true, true, true, true, true, true, true, true, true, true, true, true, true, true] rfl rfl (one_of HT_.out (by kernel_rfl)) (by decide) (fun K hK => ?_)
    refine goesP_ Tryd.func42 (by kernel_rfl) rfl #[.pointer (some ⟨g, 0, none⟩), .bool false, .int .i64 1] (by rfl) rfl rfl (by simp only [List.map_toArray, List.map_cons, List.map_nil]; rfl) ?_
    with_reducible refine (must_false _ _ _ _ H4c.out).mono ?_
    rintro e_ wm ⟨rfl, rfl⟩
    refine ⟨_, rfl, ?_⟩
    have HBw : Aside0 (Below w.heap.size w wc) := ⟨(below_drew (below_drew (Below.refl w.heap.size w))).trans HB.out⟩
    exact ⟨rfl, headPost_no HE.out (by decide) (HZ.out.trans (HBw.out.mono HZ.out.size)) (KeepBut.of_below HBw.out _ _)⟩
   | true =>
    go_enter Tryd.func59, Tryd.ntmps59
    go_wp2_with fail
    refine start_ (n := 19) (S := fun w' => w'.cell? qx = some (.int .i64 (op : Int)) ∧ w'.cell? ⟨g, 2, none⟩ = some (.slice (some ⟨B, 0, none⟩) 18 18)) (ds := []) #[false, false, false, false, false, false, false, false, false, false, false, false, false, false, false, false, false, false, false] (by kernel_rfl) rfl rfl ⟨hx0, h2⟩ (fun hHeld => ?_)
    refine with_tabW TAB_59.tab0 TAB_59.bits0 (fun HT_ HW_ => ?_)
    refine pq 0 (some 6) (v := ?_) (a' := ?_) rfl rfl (any_of HT_.out (by kernel_rfl)) (fun _ _ _ h => h) (Or.inl ⟨by rfl, ?_⟩) ?_ ?_
    rotate_left; (intro w'; go_simp; with_reducible rfl); rotate_left; (simp only [Act.put, pn, i64_w, i32_w]; rfl)
    refine pq 1 (some 7) (v := ?_) (a' := ?_) rfl rfl (any_of HT_.out (by kernel_rfl)) (fun _ _ _ h => h) (Or.inl ⟨by rfl, ?_⟩) ?_ ?_
    rotate_left; (intro w'; go_simp; with_reducible rfl); rotate_left; (simp only [Act.put, pn, i64_w, i32_w]; rfl)
    refine pq 2 (some 8) (v := ?_) (a' := ?_) rfl rfl (any_of HT_.out (by kernel_rfl)) (fun _ _ _ h => h) (Or.inl ⟨by rfl, ?_⟩) ?_ ?_
    rotate_left; (intro w'; go_simp; with_reducible rfl); rotate_left; (simp only [Act.put, pn, i64_w, i32_w]; rfl)
    refine pq 3 (some 9) (v := ?_) (a' := ?_) rfl rfl (any_of HT_.out (by kernel_rfl)) (fun _ _ _ h => h) (Or.inl ⟨by rfl, ?_⟩) ?_ ?_
    rotate_left; (intro w'; go_simp; with_reducible rfl); rotate_left; (simp only [Act.put, pn, i64_w, i32_w]; rfl)
    refine pt 4 (some 10) (v := ?_) (a' := ?_) rfl rfl (take_ofW HT_.out HW_.out (by kernel_rfl)) (fun _ _ _ h => h) (Or.inl ⟨by rfl, ?_⟩) hHeld ?_ ?_
    rotate_left; (rintro w' ⟨s0, s1⟩; go_simp; with_reducible rfl); rotate_left; (simp only [Act.put, pn, i64_w, i32_w]; rfl)
    refine pq 5 (some 11) (v := ?_) (a' := ?_) rfl rfl (any_of HT_.out (by kernel_rfl)) (fun _ _ _ h => h) (Or.inl ⟨by rfl, ?_⟩) ?_ ?_
    rotate_left; (intro w'; go_simp; with_reducible rfl); rotate_left; (simp only [Act.put, pn, i64_w, i32_w]; rfl)
    refine pq 6 (some 12) (v := ?_) (a' := ?_) rfl rfl (any_of HT_.out (by kernel_rfl)) (fun _ _ _ h => h) (Or.inl ⟨by rfl, ?_⟩) ?_ ?_
    rotate_left; (intro w'; go_simp; with_reducible rfl); rotate_left; (simp only [Act.put, pn, i64_w, i32_w]; rfl)
    refine pq 7 (some 13) (v := ?_) (a' := ?_) rfl rfl (any_of HT_.out (by kernel_rfl)) (fun _ _ _ h => h) (Or.inl ⟨by rfl, ?_⟩) ?_ ?_
    rotate_left; (intro w'; go_simp; with_reducible rfl); rotate_left; (simp only [Act.put, pn, i64_w, i32_w]; rfl)
    refine pq 8 (some 14) (v := ?_) (a' := ?_) rfl rfl (any_of HT_.out (by kernel_rfl)) (fun _ _ _ h => h) (Or.inl ⟨by rfl, ?_⟩) ?_ ?_
    rotate_left; (intro w'; go_simp; with_reducible rfl); rotate_left; (simp only [Act.put, pn, i64_w, i32_w]; rfl)
    refine pq 9 (some 15) (v := ?_) (a' := ?_) rfl rfl (any_of HT_.out (by kernel_rfl)) (fun _ _ _ h => h) (Or.inl ⟨by rfl, ?_⟩) ?_ ?_
    rotate_left; (intro w'; go_simp; with_reducible rfl); rotate_left; (simp only [Act.put, pn, i64_w, i32_w]; rfl)
    refine pq 11 (some 17) (v := ?_) (a' := ?_) rfl rfl (any_of HT_.out (by kernel_rfl)) (fun _ _ _ h => h) (Or.inl ⟨by rfl, ?_⟩) ?_ ?_
    rotate_left; (intro w'; go_simp; with_reducible rfl); rotate_left; (simp only [Act.put, pn, i64_w, i32_w]; rfl)
    refine pq 12 (some 18) (v := ?_) (a' := ?_) rfl rfl (any_of HT_.out (by kernel_rfl)) (fun _ _ _ h => h) (Or.inl ⟨by rfl, ?_⟩) ?_ ?_
    rotate_left; (intro w'; go_simp; with_reducible rfl); rotate_left; (simp only [Act.put, pn, i64_w, i32_w]; rfl)
    refine pq 13 (some 19) (v := ?_) (a' := ?_) rfl rfl (any_of HT_.out (by kernel_rfl)) (fun _ _ _ h => h) (Or.inl ⟨by rfl, ?_⟩) ?_ ?_
    rotate_left; (intro w'; go_simp; with_reducible rfl); rotate_left; (simp only [Act.put, pn, i64_w, i32_w]; rfl)
    refine pt 10 (some 16) (v := ?_) (a' := ?_) rfl rfl (take_ofW HT_.out HW_.out (by kernel_rfl)) (fun _ _ _ h => h) (Or.inl ⟨by rfl, ?_⟩) hHeld ?_ ?_
    rotate_left; (rintro w' ⟨s0, s1⟩; go_simp; with_reducible rfl); rotate_left; (simp only [Act.put, pn, i64_w, i32_w]; rfl)
    refine pt 14 (some 20) (v := ?_) (a' := ?_) rfl rfl (take_ofW HT_.out HW_.out (by kernel_rfl)) (fun _ _ _ h => h) (Or.inl ⟨by rfl, ?_⟩) hHeld ?_ ?_
    rotate_left; (rintro w' ⟨s0, s1⟩; go_simp; with_reducible rfl); rotate_left; (simp only [Act.put, pn, i64_w, i32_w]; rfl)
    refine pq 15 (some 21) (v := ?_) (a' := ?_) rfl rfl (any_of HT_.out (by kernel_rfl)) (fun _ _ _ h => h) (Or.inl ⟨by rfl, ?_⟩) ?_ ?_
    rotate_left; (intro w'; go_simp; with_reducible rfl); rotate_left; (simp only [Act.put, pn, i64_w, i32_w]; rfl)
    refine pq 16 (some 22) (v := ?_) (a' := ?_) rfl rfl (any_of HT_.out (by kernel_rfl)) (fun _ _ _ h => h) (Or.inl ⟨by rfl, ?_⟩) ?_ ?_
    rotate_left; (intro w'; go_simp; with_reducible rfl); rotate_left; (simp only [Act.put, pn, i64_w, i32_w]; rfl)
    refine pq 17 (some 23) (v := ?_) (a' := ?_) rfl rfl (any_of HT_.out (by kernel_rfl)) (fun _ _ _ h => h) (Or.inl ⟨by rfl, ?_⟩) ?_ ?_
    rotate_left; (intro w'; go_simp; with_reducible rfl); rotate_left; (simp only [Act.put, pn, i64_w, i32_w]; rfl)
    refine one_ (i := 18) (N := some 24) #[true, true, true, true, true, true, true, true, true, true, true, true, true, true, true, true, true, true, true] rfl rfl (one_of HT_.out (by kernel_rfl)) (by decide) (fun K hK => ?_)
    refine goes_ Tryd.func42 (by kernel_rfl) rfl #[.pointer (some ⟨g, 0, none⟩), .bool true, .int .i64 12] (by rfl) rfl rfl (by simp only [List.map_toArray, List.map_cons, List.map_nil]; rfl) ?_
    with_reducible refine (must_true _ _ _).mono ?_
    rintro e_ wm ⟨rfl, rfl⟩
    refine ⟨_, rfl, ?_⟩
    refine hK.out _ _ ⟨hx0, h2⟩ (fun hHeld => ?_)
    clear hK K
    refine norm_ (a' := ?_) ?_ ?_
    rotate_left
    ·show Act.put _ (some 24) _ = _
     simp only [Act.put, pn, i64_w, i32_w]
     rfl
    refine done_ (done_of HT_.out (by kernel_rfl)) ?_
    clear hHeld HT_ HW_
    go_wp2_with fail
    refine start_ (n := 14) (S := fun w' => w'.cell? qx = some (.int .i64 (op : Int)) ∧ w'.cell? ⟨g, 2, none⟩ = some (.slice (some ⟨B, 0, none⟩) 18 18) ∧ w'.cell? ⟨B, op, none⟩ = some (.slice (some ⟨b, 0, none⟩) n n)) (ds := []) #[false, false, false, false, false, false, false, false, false, false, false, false, false, false] (by kernel_rfl) rfl rfl ⟨hx0, h2, hrow⟩ (fun hHeld => ?_)
    refine with_tabW TAB_59.tab1 TAB_59.bits1 (fun HT_ HW_ => ?_)
    refine pq 0 (some 25) (v := ?_) (a' := ?_) rfl rfl (any_of HT_.out (by kernel_rfl)) (fun _ _ _ h => h) (Or.inl ⟨by rfl, ?_⟩) ?_ ?_
    rotate_left; (intro w'; go_simp; with_reducible rfl); rotate_left; (simp only [Act.put, pn, i64_w, i32_w]; rfl)
    refine pq 1 (some 26) (v := ?_) (a' := ?_) rfl rfl (any_of HT_.out (by kernel_rfl)) (fun _ _ _ h => h) (Or.inl ⟨by rfl, ?_⟩) ?_ ?_
    rotate_left; (intro w'; go_simp; with_reducible rfl); rotate_left; (simp only [Act.put, pn, i64_w, i32_w]; rfl)
    refine pq 2 (some 27) (v := ?_) (a' := ?_) rfl rfl (any_of HT_.out (by kernel_rfl)) (fun _ _ _ h => h) (Or.inl ⟨by rfl, ?_⟩) ?_ ?_
    rotate_left; (intro w'; go_simp; with_reducible rfl); rotate_left; (simp only [Act.put, pn, i64_w, i32_w]; rfl)
    refine pq 3 (some 28) (v := ?_) (a' := ?_) rfl rfl (any_of HT_.out (by kernel_rfl)) (fun _ _ _ h => h) (Or.inl ⟨by rfl, ?_⟩) ?_ ?_
    rotate_left; (intro w'; go_simp; with_reducible rfl); rotate_left; (simp only [Act.put, pn, i64_w, i32_w]; rfl)
    refine pq 5 (some 30) (v := ?_) (a' := ?_) rfl rfl (any_of HT_.out (by kernel_rfl)) (fun _ _ _ h => h) (Or.inl ⟨by rfl, ?_⟩) ?_ ?_
    rotate_left; (intro w'; go_simp; with_reducible rfl); rotate_left; (simp only [Act.put, pn, i64_w, i32_w]; rfl)
    refine pq 6 (some 31) (v := ?_) (a' := ?_) rfl rfl (any_of HT_.out (by kernel_rfl)) (fun _ _ _ h => h) (Or.inl ⟨by rfl, ?_⟩) ?_ ?_
    rotate_left; (intro w'; go_simp; with_reducible rfl); rotate_left; (simp only [Act.put, pn, i64_w, i32_w]; rfl)
    refine pq 7 (some 32) (v := ?_) (a' := ?_) rfl rfl (any_of HT_.out (by kernel_rfl)) (fun _ _ _ h => h) (Or.inl ⟨by rfl, ?_⟩) ?_ ?_
    rotate_left; (intro w'; go_simp; with_reducible rfl); rotate_left; (simp only [Act.put, pn, i64_w, i32_w]; rfl)
    refine pq 11 (some 36) (v := ?_) (a' := ?_) rfl rfl (any_of HT_.out (by kernel_rfl)) (fun _ _ _ h => h) (Or.inl ⟨by rfl, ?_⟩) ?_ ?_
    rotate_left; (intro w'; go_simp; with_reducible rfl); rotate_left; (simp only [Act.put, pn, i64_w, i32_w]; rfl)
    refine pt 4 (some 29) (v := ?_) (a' := ?_) rfl rfl (take_ofW HT_.out HW_.out (by kernel_rfl)) (fun _ _ _ h => h) (Or.inl ⟨by rfl, ?_⟩) hHeld ?_ ?_
    rotate_left; (rintro w' ⟨s0, s1, s2⟩; go_simp; with_reducible rfl); rotate_left; (simp only [Act.put, pn, i64_w, i32_w]; rfl)
    refine pt 8 (some 33) (v := ?_) (a' := ?_) rfl rfl (take_ofW HT_.out HW_.out (by kernel_rfl)) (fun _ _ _ h => h) (Or.inl ⟨by rfl, ?_⟩) hHeld ?_ ?_
    rotate_left; (rintro w' ⟨s0, s1, s2⟩; go_simp; with_reducible rfl); rotate_left; (simp only [Act.put, pn, i64_w, i32_w]; rfl)
    refine pq 9 (some 34) (v := ?_) (a' := ?_) rfl rfl (any_of HT_.out (by kernel_rfl)) (fun _ _ _ h => h) (Or.inl ⟨by rfl, ?_⟩) ?_ ?_
    rotate_left; (intro w'; go_simp; with_reducible rfl); rotate_left; (simp only [Act.put, pn, i64_w, i32_w]; rfl)
    refine pt 10 (some 35) (v := ?_) (a' := ?_) rfl rfl (take_ofW HT_.out HW_.out (by kernel_rfl)) (fun _ _ _ h => h) (Or.inl ⟨by rfl, ?_⟩) hHeld ?_ ?_
    rotate_left; (rintro w' ⟨s0, s1, s2⟩; go_simp; with_reducible rfl); rotate_left; (simp only [Act.put, pn, i64_w, i32_w]; rfl)
    refine one_ (i := 12) (N := some 37) #[true, true, true, true, true, true, true, true, true, true, true, true, true, false] rfl rfl (one_of HT_.out (by kernel_rfl)) (by decide) (fun K hK => ?_)
    refine goes_ Tryd.func92 (by kernel_rfl) rfl #[.slice (some ⟨b, 0, none⟩) n n, .pointer (some qx)] (by rfl) rfl rfl (by simp only [List.map_toArray, List.map_cons, List.map_nil]; rfl) ?_
    with_reducible refine (HPl.out).mono ?_
    rintro e_ wc ⟨rfl, hb⟩
    refine ⟨_, rfl, ?_⟩
    have HB := Aside0.mk hb
    have H4c : Aside0 (wc.cell? ⟨g, 4, none⟩ = some (.int .i64 at_)) := ⟨pw_cell_below hb H4.out⟩
    clear hb
    refine hK.out _ _ ⟨pw_cell_below HB.out hx0, pw_cell_below HB.out h2, pw_cell_below HB.out hrow⟩ (fun hHeld => ?_)
    clear hK K
    refine norm_ (a' := ?_) ?_ ?_
    rotate_left
    ·show Act.put _ (some 37) _ = _
     simp only [Act.put, pn, i64_w, i32_w]
     rfl
    refine one_ (i := 13) (N := some 38) #[true, true, true, true, true, true, true, true, true, true, true, true, true, true] rfl rfl (one_of HT_.out (by kernel_rfl)) (by decide) (fun K hK => ?_)
    refine goes_ Tryd.func42 (by kernel_rfl) rfl #[.pointer (some ⟨g, 0, none⟩), .bool true, .int .i64 1] (by rfl) rfl rfl (by simp only [List.map_toArray, List.map_cons, List.map_nil]; rfl) ?_
    with_reducible refine (must_true _ _ _).mono ?_
    rintro e_ wm ⟨rfl, rfl⟩
    refine ⟨_, rfl, ?_⟩
    refine hK.out _ _ ⟨pw_cell_below HB.out hx0, pw_cell_below HB.out h2, pw_cell_below HB.out hrow⟩ (fun hHeld => ?_)
    clear hK K
    refine norm_ (a' := ?_) ?_ ?_
    rotate_left
    ·show Act.put _ (some 38) _ = _
     simp only [Act.put, pn, i64_w, i32_w]
     rfl
    refine done_ (done_of HT_.out (by kernel_rfl)) ?_
    clear hHeld HT_ HW_
    have HBw : Aside0 (Below w.heap.size w wc) := ⟨(below_drew (below_drew (Below.refl w.heap.size w))).trans HB.out⟩
    have HAc := Aside0.mk (HA.out.below HBw.out)
    have HZc : Aside0 (Below Wz.heap.size Wz wc) := ⟨HZ.out.trans (HBw.out.mono HZ.out.size)⟩
    have HKc : Aside0 (KeepBut w wc g none) := ⟨KeepBut.of_below HBw.out _ _⟩
    replace hx0 := pw_cell_below HBw.out hx0
    have h3c := HAc.out.c3
    have hf3c : wc.frozen? ⟨g, 3, none⟩ = false := blk_frozen HAc.out 3
    clear h2 hrow HB
    cases last with
    | false =>
     by_cases d6 : op = 6
     ·by_cases d7 : locs + 1 < 1048576
      ·have HE : Aside0 (opE locs x false = 0) := ⟨by unfold opE; rw [if_pos HC.out, if_pos Hpn.out, if_pos (.inl rfl), if_pos (by have := HF.out; omega), if_pos d7]⟩
       have e6 : ((op : Int) == 6) = true := by rw [beq_iff_eq]; omega
       have hwl : wrap64 (locs + 1) = locs + 1 := wrap_in (by have := HL.out; omega) (by have := HL.out; omega)
       have D6 := Aside0.mk d6
       clear d6
       go_wp2_with fail
       refine (must_true _ _ _).mono ?_
       rintro e w' ⟨rfl, rfl⟩
       go_wp2_with fail
       have HA2 : Aside0 (AskW (wc.setCell ⟨g, 3, none⟩ (.int .i64 (locs + 1))) g ty rest G A m c B (locs + 1) at_) := ⟨HAc.out.set3 _⟩
       have HZ2 : Aside0 (Below Wz.heap.size Wz (wc.setCell ⟨g, 3, none⟩ (.int .i64 (locs + 1)))) := ⟨below_set HZc.out HG.out⟩
       have HK2 : Aside0 (KeepBut w (wc.setCell ⟨g, 3, none⟩ (.int .i64 (locs + 1))) g none) := ⟨HKc.out.set_ 3 _⟩
       have H4b := Aside0.mk HA2.out.c4
       refine (must_true _ _ _).mono ?_
       rintro e w' ⟨rfl, rfl⟩
       go_wp2_with fail
       go_end0
       exact ⟨by rw [HE.out]; rfl, fun _ => by rw [show locs + newL x = locs + 1 from by unfold newL; rw [if_pos (by have := HF.out; have := D6.out; omega)]]; exact HA2.out, HZ2.out, HK2.out⟩
      ·have HE : Aside0 (opE locs x false = 21) := ⟨by unfold opE; rw [if_pos HC.out, if_pos Hpn.out, if_pos (.inl rfl), if_pos (by have := HF.out; omega), if_neg d7]⟩
       have e6 : ((op : Int) == 6) = true := by rw [beq_iff_eq]; omega
       have hwl : wrap64 (locs + 1) = locs + 1 := wrap_in (by have := HL.out; omega) (by have := HL.out; omega)
       have D6 := Aside0.mk d6
       clear d6
       have d7b : decide (locs + 1 < 1048576) = false := decide_eq_false d7
       clear d7
       go_wp2_with fail
       refine (must_true _ _ _).mono ?_
       rintro e w' ⟨rfl, rfl⟩
       go_wp2_with fail
       have HA2 : Aside0 (AskW (wc.setCell ⟨g, 3, none⟩ (.int .i64 (locs + 1))) g ty rest G A m c B (locs + 1) at_) := ⟨HAc.out.set3 _⟩
       have HZ2 : Aside0 (Below Wz.heap.size Wz (wc.setCell ⟨g, 3, none⟩ (.int .i64 (locs + 1)))) := ⟨below_set HZc.out HG.out⟩
       have HK2 : Aside0 (KeepBut w (wc.setCell ⟨g, 3, none⟩ (.int .i64 (locs + 1))) g none) := ⟨HKc.out.set_ 3 _⟩
       have H4b := Aside0.mk HA2.out.c4
       refine (must_false _ _ _ _ H4b.out).mono ?_
       rintro e w' ⟨rfl, rfl⟩
       go_wp2_with fail
       exact ⟨rfl, headPost_no HE.out (by decide) HZ2.out HK2.out⟩
     ·have HE : Aside0 (opE locs x false = 0) := ⟨by unfold opE; rw [if_pos HC.out, if_pos Hpn.out, if_pos (.inl rfl), if_neg (by have := HF.out; omega)]⟩
      have e6 : ((op : Int) == 6) = false := by rw [beq_eq_false_iff_ne]; omega
      have D := Aside0.mk d6
      go_wp2_with fail
      refine (must_true _ _ _).mono ?_
      rintro e w' ⟨rfl, rfl⟩
      go_wp2_with fail
      go_end0
      exact ⟨by rw [HE.out]; rfl, fun _ => by rw [show locs + newL x = locs from by unfold newL; rw [if_neg (by have := HF.out; have := D.out; omega)]; omega]; exact HAc.out, HZc.out, HKc.out⟩
    | true =>
     by_cases d13 : op = 13
     ·have HE : Aside0 (opE locs x true = 0) := ⟨by unfold opE; rw [if_pos HC.out, if_pos Hpn.out, if_pos (.inr (.inl (by have := HF.out; omega))), if_neg (by have := HF.out; omega)]⟩
      have e13 : ((op : Int) == 13) = true := by rw [beq_iff_eq]; omega
      have e6 : ((op : Int) == 6) = false := by rw [beq_eq_false_iff_ne]; omega
      have D := Aside0.mk d13
      clear d13
      go_wp2_with fail
      refine (must_true _ _ _).mono ?_
      rintro e w' ⟨rfl, rfl⟩
      go_wp2_with fail
      go_end0
      exact ⟨by rw [HE.out]; rfl, fun _ => by rw [show locs + newL x = locs from by unfold newL; rw [if_neg (by have := HF.out; have := D.out; omega)]; omega]; exact HAc.out, HZc.out, HKc.out⟩
     ·by_cases d15 : op = 15
      ·have HE : Aside0 (opE locs x true = 0) := ⟨by unfold opE; rw [if_pos HC.out, if_pos Hpn.out, if_pos (.inr (.inr (by have := HF.out; omega))), if_neg (by have := HF.out; omega)]⟩
       have e13 : ((op : Int) == 13) = false := by rw [beq_eq_false_iff_ne]; omega
       have e15 : ((op : Int) == 15) = true := by rw [beq_iff_eq]; omega
       have e6 : ((op : Int) == 6) = false := by rw [beq_eq_false_iff_ne]; omega
       have D := Aside0.mk d15
       clear d15
       go_wp2_with fail
       refine (must_true _ _ _).mono ?_
       rintro e w' ⟨rfl, rfl⟩
       go_wp2_with fail
       go_end0
       exact ⟨by rw [HE.out]; rfl, fun _ => by rw [show locs + newL x = locs from by unfold newL; rw [if_neg (by have := HF.out; have := D.out; omega)]; omega]; exact HAc.out, HZc.out, HKc.out⟩
      ·have HE : Aside0 (opE locs x true = 19) := ⟨by unfold opE; rw [if_pos HC.out, if_pos Hpn.out, if_neg (by have := HF.out; simp; omega)]⟩
       have e13 : ((op : Int) == 13) = false := by rw [beq_eq_false_iff_ne]; omega
       have e15 : ((op : Int) == 15) = false := by rw [beq_eq_false_iff_ne]; omega
       go_wp2_with fail
       refine (must_false _ _ _ _ H4c.out).mono ?_
       rintro e w' ⟨rfl, rfl⟩
       go_wp2_with fail
       exact ⟨rfl, headPost_no HE.out (by decide) HZc.out HKc.out⟩
  ·have HE : Aside0 (opE locs x last = 12) := ⟨by unfold opE; rw [if_neg (fun h => c1 h.2)]⟩
   have cb : decide (x.f0 < 18) = false := decide_eq_false c1
   clear c1
   go_enter Tryd.func59, Tryd.ntmps59
   go_wp2_with fail
   refine start_ (n := 19) (S := fun w' => w'.cell? qx = some (.int .i64 x.f0) ∧ w'.cell? ⟨g, 2, none⟩ = some (.slice (some ⟨B, 0, none⟩) 18 18)) (ds := []) #[false, false, false, false, false, false, false, false, false, false, false, false, false, false, false, false, false, false, false] (by kernel_rfl) rfl rfl ⟨hx0, h2⟩ (fun hHeld => ?_)
   refine with_tabW TAB_59.tab0 TAB_59.bits0 (fun HT_ HW_ => ?_)
   refine pq 0 (some 6) (v := ?_) (a' := ?_) rfl rfl (any_of HT_.out (by kernel_rfl)) (fun _ _ _ h => h) (Or.inl ⟨by rfl, ?_⟩) ?_ ?_
   rotate_left; (intro w'; go_simp; with_reducible rfl); rotate_left; (simp only [Act.put, pn, i64_w, i32_w]; rfl)
   refine pq 1 (some 7) (v := ?_) (a' := ?_) rfl rfl (any_of HT_.out (by kernel_rfl)) (fun _ _ _ h => h) (Or.inl ⟨by rfl, ?_⟩) ?_ ?_
   rotate_left; (intro w'; go_simp; with_reducible rfl); rotate_left; (simp only [Act.put, pn, i64_w, i32_w]; rfl)
   refine pq 2 (some 8) (v := ?_) (a' := ?_) rfl rfl (any_of HT_.out (by kernel_rfl)) (fun _ _ _ h => h) (Or.inl ⟨by rfl, ?_⟩) ?_ ?_
   rotate_left; (intro w'; go_simp; with_reducible rfl); rotate_left; (simp only [Act.put, pn, i64_w, i32_w]; rfl)
   refine pq 3 (some 9) (v := ?_) (a' := ?_) rfl rfl (any_of HT_.out (by kernel_rfl)) (fun _ _ _ h => h) (Or.inl ⟨by rfl, ?_⟩) ?_ ?_
   rotate_left; (intro w'; go_simp; with_reducible rfl); rotate_left; (simp only [Act.put, pn, i64_w, i32_w]; rfl)
   refine pt 4 (some 10) (v := ?_) (a' := ?_) rfl rfl (take_ofW HT_.out HW_.out (by kernel_rfl)) (fun _ _ _ h => h) (Or.inl ⟨by rfl, ?_⟩) hHeld ?_ ?_
   rotate_left; (rintro w' ⟨s0, s1⟩; go_simp; with_reducible rfl); rotate_left; (simp only [Act.put, pn, i64_w, i32_w]; rfl)
   refine pq 5 (some 11) (v := ?_) (a' := ?_) rfl rfl (any_of HT_.out (by kernel_rfl)) (fun _ _ _ h => h) (Or.inl ⟨by rfl, ?_⟩) ?_ ?_
   rotate_left; (intro w'; go_simp; with_reducible rfl); rotate_left; (simp only [Act.put, pn, i64_w, i32_w]; rfl)
   refine pq 6 (some 12) (v := ?_) (a' := ?_) rfl rfl (any_of HT_.out (by kernel_rfl)) (fun _ _ _ h => h) (Or.inl ⟨by rfl, ?_⟩) ?_ ?_
   rotate_left; (intro w'; go_simp; with_reducible rfl); rotate_left; (simp only [Act.put, pn, i64_w, i32_w]; rfl)
   refine pq 7 (some 13) (v := ?_) (a' := ?_) rfl rfl (any_of HT_.out (by kernel_rfl)) (fun _ _ _ h => h) (Or.inl ⟨by rfl, ?_⟩) ?_ ?_
   rotate_left; (intro w'; go_simp; with_reducible rfl); rotate_left; (simp only [Act.put, pn, i64_w, i32_w]; rfl)
   refine pq 8 (some 14) (v := ?_) (a' := ?_) rfl rfl (any_of HT_.out (by kernel_rfl)) (fun _ _ _ h => h) (Or.inl ⟨by rfl, ?_⟩) ?_ ?_
   rotate_left; (intro w'; go_simp; with_reducible rfl); rotate_left; (simp only [Act.put, pn, i64_w, i32_w]; rfl)
   refine pq 9 (some 15) (v := ?_) (a' := ?_) rfl rfl (any_of HT_.out (by kernel_rfl)) (fun _ _ _ h => h) (Or.inl ⟨by rfl, ?_⟩) ?_ ?_
   rotate_left; (intro w'; go_simp; with_reducible rfl); rotate_left; (simp only [Act.put, pn, i64_w, i32_w]; rfl)
   refine pq 11 (some 17) (v := ?_) (a' := ?_) rfl rfl (any_of HT_.out (by kernel_rfl)) (fun _ _ _ h => h) (Or.inl ⟨by rfl, ?_⟩) ?_ ?_
   rotate_left; (intro w'; go_simp; with_reducible rfl); rotate_left; (simp only [Act.put, pn, i64_w, i32_w]; rfl)
   refine pq 12 (some 18) (v := ?_) (a' := ?_) rfl rfl (any_of HT_.out (by kernel_rfl)) (fun _ _ _ h => h) (Or.inl ⟨by rfl, ?_⟩) ?_ ?_
   rotate_left; (intro w'; go_simp; with_reducible rfl); rotate_left; (simp only [Act.put, pn, i64_w, i32_w]; rfl)
   refine pq 13 (some 19) (v := ?_) (a' := ?_) rfl rfl (any_of HT_.out (by kernel_rfl)) (fun _ _ _ h => h) (Or.inl ⟨by rfl, ?_⟩) ?_ ?_
   rotate_left; (intro w'; go_simp; with_reducible rfl); rotate_left; (simp only [Act.put, pn, i64_w, i32_w]; rfl)
   refine pt 10 (some 16) (v := ?_) (a' := ?_) rfl rfl (take_ofW HT_.out HW_.out (by kernel_rfl)) (fun _ _ _ h => h) (Or.inl ⟨by rfl, ?_⟩) hHeld ?_ ?_
   rotate_left; (rintro w' ⟨s0, s1⟩; go_simp; with_reducible rfl); rotate_left; (simp only [Act.put, pn, i64_w, i32_w]; rfl)
   refine pt 14 (some 20) (v := ?_) (a' := ?_) rfl rfl (take_ofW HT_.out HW_.out (by kernel_rfl)) (fun _ _ _ h => h) (Or.inl ⟨by rfl, ?_⟩) hHeld ?_ ?_
   rotate_left; (rintro w' ⟨s0, s1⟩; go_simp; with_reducible rfl); rotate_left; (simp only [Act.put, pn, i64_w, i32_w]; rfl)
   refine pq 15 (some 21) (v := ?_) (a' := ?_) rfl rfl (any_of HT_.out (by kernel_rfl)) (fun _ _ _ h => h) (Or.inl ⟨by rfl, ?_⟩) ?_ ?_
   rotate_left; (intro w'; go_simp; with_reducible rfl); rotate_left; (simp only [Act.put, pn, i64_w, i32_w]; rfl)
   refine pq 16 (some 22) (v := ?_) (a' := ?_) rfl rfl (any_of HT_.out (by kernel_rfl)) (fun _ _ _ h => h) (Or.inl ⟨by rfl, ?_⟩) ?_ ?_
   rotate_left; (intro w'; go_simp; with_reducible rfl); rotate_left; (simp only [Act.put, pn, i64_w, i32_w]; rfl)
   refine pq 17 (some 23) (v := ?_) (a' := ?_) rfl rfl (any_of HT_.out (by kernel_rfl)) (fun _ _ _ h => h) (Or.inl ⟨by rfl, ?_⟩) ?_ ?_
   rotate_left; (intro w'; go_simp; with_reducible rfl); rotate_left; (simp only [Act.put, pn, i64_w, i32_w]; rfl)
   refine one_ (i := 18) (N := some 24) #[true, true, true, true, true, true, true, true, true, true, true, true, true, true, true, true, true, true, true] rfl rfl (one_of HT_.out (by kernel_rfl)) (by decide) (fun K hK => ?_)
   refine goesP_ Tryd.func42 (by kernel_rfl) rfl #[.pointer (some ⟨g, 0, none⟩), .bool false, .int .i64 12] (by rfl) rfl rfl (by simp only [List.map_toArray, List.map_cons, List.map_nil]; rfl) ?_
   with_reducible refine (must_false _ _ _ _ H4.out).mono ?_
   rintro e_ wm ⟨rfl, rfl⟩
   refine ⟨_, rfl, ?_⟩
   exact ⟨rfl, headPost_no HE.out (by decide) (below_drew HZ.out) (KeepBut.of_below (below_drew (Below.refl _ _)) _ _)⟩
 ·have HE : Aside0 (opE locs x last = 12) := ⟨by unfold opE; rw [if_neg (fun h => c0 h.1)]⟩
  have cb : decide (1 ≤ x.f0) = false := decide_eq_false c0
  clear c0
  go_enter Tryd.func59, Tryd.ntmps59
  go_wp2_with fail
  refine start_ (n := 19) (S := fun w' => w'.cell? qx = some (.int .i64 x.f0) ∧ w'.cell? ⟨g, 2, none⟩ = some (.slice (some ⟨B, 0, none⟩) 18 18)) (ds := []) #[false, false, false, false, false, false, false, false, false, false, false, false, false, false, false, false, false, false, false] (by kernel_rfl) rfl rfl ⟨hx0, h2⟩ (fun hHeld => ?_)
  refine with_tabW TAB_59.tab0 TAB_59.bits0 (fun HT_ HW_ => ?_)
  refine pq 0 (some 6) (v := ?_) (a' := ?_) rfl rfl (any_of HT_.out (by kernel_rfl)) (fun _ _ _ h => h) (Or.inl ⟨by rfl, ?_⟩) ?_ ?_
  rotate_left; (intro w'; go_simp; with_reducible rfl); rotate_left; (simp only [Act.put, pn, i64_w, i32_w]; rfl)
  refine pq 1 (some 7) (v := ?_) (a' := ?_) rfl rfl (any_of HT_.out (by kernel_rfl)) (fun _ _ _ h => h) (Or.inl ⟨by rfl, ?_⟩) ?_ ?_
  rotate_left; (intro w'; go_simp; with_reducible rfl); rotate_left; (simp only [Act.put, pn, i64_w, i32_w]; rfl)
  refine pq 2 (some 8) (v := ?_) (a' := ?_) rfl rfl (any_of HT_.out (by kernel_rfl)) (fun _ _ _ h => h) (Or.inl ⟨by rfl, ?_⟩) ?_ ?_
  rotate_left; (intro w'; go_simp; with_reducible rfl); rotate_left; (simp only [Act.put, pn, i64_w, i32_w]; rfl)
  refine pq 3 (some 9) (v := ?_) (a' := ?_) rfl rfl (any_of HT_.out (by kernel_rfl)) (fun _ _ _ h => h) (Or.inl ⟨by rfl, ?_⟩) ?_ ?_
  rotate_left; (intro w'; go_simp; with_reducible rfl); rotate_left; (simp only [Act.put, pn, i64_w, i32_w]; rfl)
  refine pt 4 (some 10) (v := ?_) (a' := ?_) rfl rfl (take_ofW HT_.out HW_.out (by kernel_rfl)) (fun _ _ _ h => h) (Or.inl ⟨by rfl, ?_⟩) hHeld ?_ ?_
  rotate_left; (rintro w' ⟨s0, s1⟩; go_simp; with_reducible rfl); rotate_left; (simp only [Act.put, pn, i64_w, i32_w]; rfl)
  refine pq 5 (some 11) (v := ?_) (a' := ?_) rfl rfl (any_of HT_.out (by kernel_rfl)) (fun _ _ _ h => h) (Or.inl ⟨by rfl, ?_⟩) ?_ ?_
  rotate_left; (intro w'; go_simp; with_reducible rfl); rotate_left; (simp only [Act.put, pn, i64_w, i32_w]; rfl)
  refine pq 6 (some 12) (v := ?_) (a' := ?_) rfl rfl (any_of HT_.out (by kernel_rfl)) (fun _ _ _ h => h) (Or.inl ⟨by rfl, ?_⟩) ?_ ?_
  rotate_left; (intro w'; go_simp; with_reducible rfl); rotate_left; (simp only [Act.put, pn, i64_w, i32_w]; rfl)
  refine pure_ (i := 7) (N := some 13) (v := undef) (a' := ?_) #[true, true, true, true, true, true, true, true, false, false, false, false, false, false, false, false, false, false, false] rfl rfl (any_of HT_.out (by kernel_rfl)) (fun _ _ _ h => h) (Or.inr ⟨by rfl, rfl⟩) ?_ ?_
  rotate_left
  ·simp only [Act.put, pn, i64_w, i32_w]
   rfl
  refine pure_ (i := 8) (N := some 14) (v := undef) (a' := ?_) #[true, true, true, true, true, true, true, true, true, false, false, false, false, false, false, false, false, false, false] rfl rfl (any_of HT_.out (by kernel_rfl)) (fun _ _ _ h => h) (Or.inr ⟨by rfl, rfl⟩) ?_ ?_
  rotate_left
  ·simp only [Act.put, pn, i64_w, i32_w]
   rfl
  refine pure_ (i := 9) (N := some 15) (v := undef) (a' := ?_) #[true, true, true, true, true, true, true, true, true, true, false, false, false, false, false, false, false, false, false] rfl rfl (any_of HT_.out (by kernel_rfl)) (fun _ _ _ h => h) (Or.inr ⟨by rfl, rfl⟩) ?_ ?_
  rotate_left
  ·simp only [Act.put, pn, i64_w, i32_w]
   rfl
  refine pure_ (i := 10) (N := some 16) (v := undef) (a' := ?_) #[true, true, true, true, true, true, true, true, true, true, true, false, false, false, false, false, false, false, false] rfl rfl (any_of HT_.out (by kernel_rfl)) (fun _ _ _ h => h) (Or.inr ⟨by rfl, rfl⟩) ?_ ?_
  rotate_left
  ·simp only [Act.put, pn, i64_w, i32_w]
   rfl
  refine pure_ (i := 11) (N := some 17) (v := undef) (a' := ?_) #[true, true, true, true, true, true, true, true, true, true, true, true, false, false, false, false, false, false, false] rfl rfl (any_of HT_.out (by kernel_rfl)) (fun _ _ _ h => h) (Or.inr ⟨by rfl, rfl⟩) ?_ ?_
  rotate_left
  ·simp only [Act.put, pn, i64_w, i32_w]
   rfl
  refine pure_ (i := 12) (N := some 18) (v := undef) (a' := ?_) #[true, true, true, true, true, true, true, true, true, true, true, true, true, false, false, false, false, false, false] rfl rfl (any_of HT_.out (by kernel_rfl)) (fun _ _ _ h => h) (Or.inr ⟨by rfl, rfl⟩) ?_ ?_
  rotate_left
  ·simp only [Act.put, pn, i64_w, i32_w]
   rfl
  refine pure_ (i := 13) (N := some 19) (v := undef) (a' := ?_) #[true, true, true, true, true, true, true, true, true, true, true, true, true, true, false, false, false, false, false] rfl rfl (any_of HT_.out (by kernel_rfl)) (fun _ _ _ h => h) (Or.inr ⟨by rfl, rfl⟩) ?_ ?_
  rotate_left
  ·simp only [Act.put, pn, i64_w, i32_w]
   rfl
  refine pure_ (i := 14) (N := some 20) (v := undef) (a' := ?_) #[true, true, true, true, true, true, true, true, true, true, true, true, true, true, true, false, false, false, false] rfl rfl (any_of HT_.out (by kernel_rfl)) (fun _ _ _ h => h) (Or.inr ⟨by rfl, rfl⟩) ?_ ?_
  rotate_left
  ·simp only [Act.put, pn, i64_w, i32_w]
   rfl
  refine pure_ (i := 15) (N := some 21) (v := undef) (a' := ?_) #[true, true, true, true, true, true, true, true, true, true, true, true, true, true, true, true, false, false, false] rfl rfl (any_of HT_.out (by kernel_rfl)) (fun _ _ _ h => h) (Or.inr ⟨by rfl, rfl⟩) ?_ ?_
  rotate_left
  ·simp only [Act.put, pn, i64_w, i32_w]
   rfl
  refine pure_ (i := 16) (N := some 22) (v := undef) (a' := ?_) #[true, true, true, true, true, true, true, true, true, true, true, true, true, true, true, true, true, false, false] rfl rfl (any_of HT_.out (by kernel_rfl)) (fun _ _ _ h => h) (Or.inr ⟨by rfl, rfl⟩) ?_ ?_
  rotate_left
  ·simp only [Act.put, pn, i64_w, i32_w]
   rfl
  refine pq 17 (some 23) (v := ?_) (a' := ?_) rfl rfl (any_of HT_.out (by kernel_rfl)) (fun _ _ _ h => h) (Or.inl ⟨by rfl, ?_⟩) ?_ ?_
  rotate_left; (intro w'; go_simp; with_reducible rfl); rotate_left; (simp only [Act.put, pn, i64_w, i32_w]; rfl)
  refine one_ (i := 18) (N := some 24) #[true, true, true, true, true, true, true, true, true, true, true, true, true, true, true, true, true, true, true] rfl rfl (one_of HT_.out (by kernel_rfl)) (by decide) (fun K hK => ?_)
  refine goesP_ Tryd.func42 (by kernel_rfl) rfl #[.pointer (some ⟨g, 0, none⟩), .bool false, .int .i64 12] (by rfl) rfl rfl (by simp only [List.map_toArray, List.map_cons, List.map_nil]; rfl) ?_
  with_reducible refine (must_false _ _ _ _ H4.out).mono ?_
  rintro e_ wm ⟨rfl, rfl⟩
  refine ⟨_, rfl, ?_⟩
  exact ⟨rfl, headPost_no HE.out (by decide) (below_drew HZ.out) (KeepBut.of_below (below_drew (Below.refl _ _)) _ _)⟩
theorem goesV_ {P : Program} {ops : Array Oper} {Q : Exit → Act → World → Prop} {oi : Oper} {N : Option Tmp} {a : Act} {w : World} {K : Act → World → Prop} {f : FuncId} {cap : Array Value} {c : Operand} {as_ : Array Operand} {ts : Array TypeId} (hen : ∀ (args : Array Value) (w : World), (callFunc f args).run P w = .ok (.enter f args) w) (args : Array Value)
  (hw : Region.wanted oi (yielded ops a.tmps) = true) (hN : oi.dst = N) (hop : oi.op = .call { callee := .value c, args := as_, argTypes := ts }) (hc : a.eval c = .func (Fn.func f) #[] cap) (hargs : as_.map a.eval ++ cap = args)
  (h : Calls P f args w fun e w' => ∃ v, e = .returned v ∧ K (a.put N v) w') : if Region.wanted oi (yielded ops a.tmps) = true then Oper.wp P oi a w K Q else K (a.put N undef) w := by
 refine call_ f args hw hN ?_ h
 have he := hen args w
 unfold execOp
 simp [hop, resolve, Deferred.ofValue, invoke, hc, hargs, he]
theorem goesVP_ {P : Program} {ops : Array Oper} {Q : Exit → Act → World → Prop} {oi : Oper} {N : Option Tmp} {a : Act} {w : World} {K : Act → World → Prop} {f : FuncId} {cap : Array Value} {c : Operand} {as_ : Array Operand} {ts : Array TypeId} (hen : ∀ (args : Array Value) (w : World), (callFunc f args).run P w = .ok (.enter f args) w) (args : Array Value)
  (hw : Region.wanted oi (yielded ops a.tmps) = true) (hN : oi.dst = N) (hop : oi.op = .call { callee := .value c, args := as_, argTypes := ts }) (hc : a.eval c = .func (Fn.func f) #[] cap) (hargs : as_.map a.eval ++ cap = args)
  (h : Calls P f args w fun e w' => ∃ ch, e = .panicked ch ∧ Q (.panic ch) a w') : if Region.wanted oi (yielded ops a.tmps) = true then Oper.wp P oi a w K Q else K (a.put N undef) w := by
 refine callP_ f args hw hN ?_ h
 have he := hen args w
 unfold execOp
 simp [hop, resolve, Deferred.ofValue, invoke, hc, hargs, he]
theorem ent73 : Enters 73 := fun _ _ => enters_ Tryd.func73 (by kernel_rfl) (by kernel_rfl) _ _
theorem ent97 : Enters 97 := fun _ _ => enters_ Tryd.func97 (by kernel_rfl) (by kernel_rfl) _ _
theorem ent102 : Enters 102 := fun _ _ => enters_ Tryd.func102 (by kernel_rfl) (by kernel_rfl) _ _
theorem ent103 : Enters 103 := fun _ _ => enters_ Tryd.func103 (by kernel_rfl) (by kernel_rfl) _ _
theorem ask_int (a b c : Value) (n : Value) (at_ : Int) (w : World) : Calls Tryd.prog 73 #[a, b, c, n] w fun e w' => AskPost w 0 at_ e w' := by
 go_enter Tryd.func73, Tryd.ntmps73
 go_wp2
 go_end0
 exact askPost_ok rfl (Below.refl _ _)
def HeadsC (w : World) (A : Option Addr) (fs : List S46) : Prop := ∀ (i : Nat) (h : i < fs.length), ∃ ad, A = some ad ∧ w.cell? (ad.add (i * 4)) = some (.int .i64 fs[i].f0) ∧ w.cell? ⟨(ad.add (i * 4)).block, (ad.add (i * 4)).off + 1, none⟩ = some (.int .i64 fs[i].f1)
theorem HeadsC.below {w w' : World} {A : Option Addr} {fs : List S46} (h : HeadsC w A fs) (hb : Below w.heap.size w w') : HeadsC w' A fs := fun i hi => by
 obtain ⟨ad, e, h0, h1⟩ := h i hi
 exact ⟨ad, e, pw_cell_below hb h0, pw_cell_below hb h1⟩
def partE (G : Int) (fs : List S46) (R V n : Int) (x : S50) : PK → Int
 | .R => varE V x.f1
 | .S => varE V x.f2
 | .T => varE V x.f3
 | .int => 0
 | .fields => numE 1 9 17 x.f4
 | .field => numE 0 8 17 x.f4
 | .glob => numE 0 G 18 x.f4
 | .func => numE 0 fs.length 14 x.f4
 | .jump => numE 0 n 16 x.f4
 | .args => listE (fs.getD x.f4.toNat z46).f0 V x.f5
 | .rets => listE (fs.getD x.f4.toNat z46).f1 V x.f6
 | .vals => listE R V x.f5
def mayAsk (fs : List S46) (x : S50) : PK → Prop
 | .args | .rets => 0 ≤ x.f4 ∧ x.f4 < fs.length
 | _ => True
theorem callee_heads {w : World} {A : Option Addr} {fs : List S46} {N : Int} (h : HeadsC w A fs) (h0 : 0 ≤ N) (h1 : N < fs.length) : ∃ ad, A = some ad ∧ w.cell? (ad.add (N.toNat * 4)) = some (.int .i64 (fs.getD N.toNat z46).f0) ∧ w.cell? ⟨(ad.add (N.toNat * 4)).block, (ad.add (N.toNat * 4)).off + 1, none⟩ = some (.int .i64 (fs.getD N.toNat z46).f1) := by
 obtain ⟨ad, e, g0, g1⟩ := h N.toNat (by omega)
 have hg : fs.getD N.toNat z46 = fs[N.toNat]'(by omega) := by rw [List.getD_eq_getElem?_getD, List.getElem?_eq_getElem (by omega)]; rfl
 rw [hg]
 exact ⟨ad, e, g0, g1⟩
theorem ask_part (k : PK) (c0 c1 c2 c3 : Value) (g : Nat) (qf qx : Addr) (ty : TypeId) (rest : List Value) (G : Int) (A : Option Addr) (c B : Nat) (locs at_ R V n : Int) (fs : List S46) (x : S50) (A5 : Option Addr) (c5 : Nat) (A6 : Option Addr) (c6 : Nat) (w : World) (hp : PartIs w k [c0, c1, c2, c3]) (hA : AskW w g ty rest G A fs.length c B locs at_) (hF : HeadsC w A fs)
  (hR : w.cell? ⟨qf.block, qf.off + 1, none⟩ = some (.int .i64 R)) (hV : w.cell? ⟨qf.block, qf.off + 2, none⟩ = some (.int .i64 V)) (hx : InsW w qx x A5 c5 A6 c6) (h5 : (Kd.int .i64).C w A5 x.f5.length x.f5) (h6 : (Kd.int .i64).C w A6 x.f6.length x.f6) (hm : mayAsk fs x k) :
  ∃ fn cap, c1 = .func (Fn.func fn) #[] cap ∧ Enters fn ∧ Calls Tryd.prog fn (#[.pointer (some ⟨g, 0, none⟩), .pointer (some qf), .pointer (some qx), .int .i64 n] ++ cap) w fun e w' => AskPost w (partE G fs R V n x k) at_ e w' := by
 have hp0 := hp
 have f69 : ∀ (q : Addr) (w : World), Calls Tryd.prog 69 #[.pointer (some q)] w fun e w' => e = .returned (.pointer (some ⟨q.block, q.off + 1, none⟩)) ∧ w = w' := of69
 cases k
 case R =>
  obtain ⟨b1, b2, he, h1, _⟩ := hp
  injection he with _ he; injection he with he _
  exact ⟨97, _, he, ent97, ask_var 69 1 of69 (.inl rfl) g b1 qf qx n V x.f1 at_ w hA.c4 hV hx.2.1 h1⟩
 case S =>
  obtain ⟨b1, b2, he, h1, _⟩ := hp
  injection he with _ he; injection he with he _
  exact ⟨97, _, he, ent97, ask_var 70 2 of70 (.inr (.inl rfl)) g b1 qf qx n V x.f2 at_ w hA.c4 hV hx.2.2.1 h1⟩
 case T =>
  obtain ⟨b1, b2, he, h1, _⟩ := hp
  injection he with _ he; injection he with he _
  exact ⟨97, _, he, ent97, ask_var 71 3 of71 (.inr (.inr rfl)) g b1 qf qx n V x.f3 at_ w hA.c4 hV hx.2.2.2.1 h1⟩
 case int =>
  obtain ⟨b1, he, h1⟩ := hp
  injection he with _ he; injection he with he _
  exact ⟨73, #[], he, ent73, ask_int _ _ _ _ at_ w⟩
 case fields =>
  obtain ⟨b1, b3, b4, b5, he, _, h3, h4, h5⟩ := hp
  injection he with _ he; injection he with he _
  exact ⟨102, _, he, ent102, ask_num 75 ent75 9 1 17 (by decide) g b3 b4 b5 qf qx n x.f4 at_ w (end75 g n w.drew) hA.c4 hx.2.2.2.2.1 h3 h4 h5⟩
 case field =>
  obtain ⟨b1, b3, b4, b5, he, _, h3, h4, h5⟩ := hp
  injection he with _ he; injection he with he _
  exact ⟨102, _, he, ent102, ask_num 76 ent76 8 0 17 (by decide) g b3 b4 b5 qf qx n x.f4 at_ w (end76 g n w.drew) hA.c4 hx.2.2.2.2.1 h3 h4 h5⟩
 case glob =>
  obtain ⟨b1, b3, b4, b5, he, _, h3, h4, h5⟩ := hp
  injection he with _ he; injection he with he _
  exact ⟨102, _, he, ent102, ask_num 77 ent77 G 0 18 (by decide) g b3 b4 b5 qf qx n x.f4 at_ w (end77 g n G w.drew hA.c0) hA.c4 hx.2.2.2.2.1 h3 h4 h5⟩
 case func =>
  obtain ⟨b1, b3, b4, b5, he, _, h3, h4, h5⟩ := hp
  injection he with _ he; injection he with he _
  exact ⟨102, _, he, ent102, ask_num 78 ent78 fs.length 0 14 (by decide) g b3 b4 b5 qf qx n x.f4 at_ w (end78 g n A fs.length c w.drew hA.c1) hA.c4 hx.2.2.2.2.1 h3 h4 h5⟩
 case jump =>
  obtain ⟨b1, b3, b4, b5, he, _, h3, h4, h5⟩ := hp
  injection he with _ he; injection he with he _
  exact ⟨102, _, he, ent102, ask_num 79 ent79 n 0 16 (by decide) g b3 b4 b5 qf qx n x.f4 at_ w (end79 g n w.drew) hA.c4 hx.2.2.2.2.1 h3 h4 h5⟩
 case args =>
  obtain ⟨b4, b5, he, h4, h5b⟩ := hp
  injection he with _ he; injection he with he _
  obtain ⟨ad, rfl, g0, g1⟩ := callee_heads hF hm.1 hm.2
  exact ⟨103, _, he, ent103, ask_list 81 82 5 ent81 ent82 g b4 b5 qf qx n V _ at_ A5 c5 x.f5 w (of81 qx w) (want82 g qf qx ad fs.length c x.f4 _ w hA.c1 hx.2.2.2.2.1 hm.1 hm.2 g0) hA.c4 hx.2.2.2.2.2.1 hV h5 h4 h5b⟩
 case rets =>
  obtain ⟨b4, b5, he, h4, h5b⟩ := hp
  injection he with _ he; injection he with he _
  obtain ⟨ad, rfl, g0, g1⟩ := callee_heads hF hm.1 hm.2
  exact ⟨103, _, he, ent103, ask_list 83 84 6 ent83 ent84 g b4 b5 qf qx n V _ at_ A6 c6 x.f6 w (of83 qx w) (want84 g qf qx ad fs.length c x.f4 _ w hA.c1 hx.2.2.2.2.1 hm.1 hm.2 g1) hA.c4 hx.2.2.2.2.2.2 hV h6 h4 h5b⟩
 case vals =>
  obtain ⟨b4, b5, he, h4, h5b⟩ := hp
  injection he with _ he; injection he with he _
  exact ⟨103, _, he, ent103, ask_list 81 85 5 ent81 ent85 g b4 b5 qf qx n V R at_ A5 c5 x.f5 w (of81 qx w) (want85 g qf qx R w hR) hA.c4 hx.2.2.2.2.2.1 hV h5 h4 h5b⟩
theorem wp_tmps {P : Program} {c : Code} {Q : Exit → Act → World → Prop} {T T' : Array Value} {w : World} (e : T = T') (h : c.wp P Q { tmps := T', defers := [] } w) : c.wp P Q { tmps := T, defers := [] } w := e ▸ h
theorem assert_stop (er at_ : Int) (w : World) : (Instr.typeAssert (stopV er at_) 20 74 true).run Tryd.prog w = .ok (.tuple #[.agg #[.int .i64 er, .int .i64 at_], .bool true]) w := by kernel_rfl
theorem assert_nil (w : World) : (Instr.typeAssert .nilIface 20 74 true).run Tryd.prog w = .ok (.tuple #[.agg #[.int .i64 0, .int .i64 0], .bool false]) w := by kernel_rfl
set_option maxHeartbeats 8000000 in
set_option maxRecDepth 100000 in
theorem catch_idle (ge : Nat) (w : World) : CallsD Tryd.prog 57 #[.pointer (some ⟨ge, 0, none⟩)] .returning w fun e u' w' => e = .returned (.tuple #[]) ∧ u' = .returning ∧ w' = w.alloc (.cells #[.int .i64 0, .int .i64 0] 74) := by
 have hta := assert_nil
 refine callsD_of_wpS Tryd.func57 rfl fun c₀ cs hu => ?_
 apply wpS_seq
 apply wpS_region
 simp [wpOpsS, go_sem, recoverD, hu, Tryd.ntmps57, Exit.thenS, hta]
 refine wpS_of_wp ?_
 generalize hQ : (fun e a' w' => bodyPostS Tryd.prog Tryd.f57 c₀ _ _ e a' _ w') = Q
 refine wp_tmps (T' := #[.pointer (some ⟨ge, 0, none⟩), .pointer (some ⟨w.heap.size, 0, none⟩), .bool false, .tuple #[.agg #[.int .i64 0, .int .i64 0], .bool false], .nilIface, .tuple #[.agg #[.int .i64 0, .int .i64 0], .bool false], .agg #[.int .i64 0, .int .i64 0], .bool false, undef, undef, undef]) (by kernel_rfl) ?_
 go_wp2
 subst hQ
 cases c₀
 simp_all [bodyPostS, results, Tryd.results57]
set_option maxHeartbeats 8000000 in
set_option maxRecDepth 100000 in
theorem catch_stop (ge : Nat) (x er at_ : Int) (w : World) (hb : w.heap[ge]? = some (.cells #[.int .i64 x] 27 (0, 0))) :
  CallsD Tryd.prog 57 #[.pointer (some ⟨ge, 0, none⟩)] (.panicking ({ v := stopV er at_, recovered := false } :: [])) w fun e u' w' => e = .returned (.tuple #[]) ∧ u' = .panicking ({ v := stopV er at_, recovered := true } :: []) ∧ w' = (w.alloc (.cells #[.int .i64 er, .int .i64 at_] 74)).setCell ⟨ge, 0, none⟩ (.int .i64 er) := by
 have hta := assert_stop er at_
 have hc2 : (w.alloc (.cells #[.int .i64 er, .int .i64 at_] 74)).cell? ⟨ge, 0, none⟩ = some (.int .i64 x) := (blk_cell (blk_alloc hb _) 0).trans rfl
 have hz2 := blk_frozen (blk_alloc hb (.cells #[.int .i64 er, .int .i64 at_] 74)) 0
 clear hb
 unfold stopV at hta ⊢
 refine callsD_of_wpS Tryd.func57 rfl fun c₀ cs hu => ?_
 apply wpS_seq
 apply wpS_region
 simp [wpOpsS, go_sem, recoverD, hu, Tryd.ntmps57, Exit.thenS, hta]
 refine wpS_of_wp ?_
 generalize hQ : (fun e a' w' => bodyPostS Tryd.prog Tryd.f57 c₀ _ _ e a' _ w') = Q
 refine wp_tmps (T' := #[.pointer (some ⟨ge, 0, none⟩), .pointer (some ⟨w.heap.size, 0, none⟩), .bool true, .tuple #[.agg #[.int .i64 er, .int .i64 at_], .bool true], .iface 74 (.agg #[.int .i64 er, .int .i64 at_]), .tuple #[.agg #[.int .i64 er, .int .i64 at_], .bool true], .agg #[.int .i64 er, .int .i64 at_], .bool true, undef, undef, undef]) (by kernel_rfl) ?_
 go_wp2
 subst hQ
 cases c₀
 simp_all [bodyPostS, results, Tryd.results57]
def iter (step : Nat → Int → Int × Int) : Nat → Int → Int × Int
 | 0, l => (0, l)
 | q + 1, l => if (iter step q l).1 = 0 then step q (iter step q l).2 else iter step q l
theorem iter_next {step : Nat → Int → Int × Int} {q : Nat} {l l' : Int} (h : iter step q l = (0, l')) : iter step (q + 1) l = step q l' := by
 show (if (iter step q l).1 = 0 then step q (iter step q l).2 else iter step q l) = _
 rw [h, if_pos rfl]
theorem iter_stop {step : Nat → Int → Int × Int} {q : Nat} {l : Int} (h : (iter step q l).1 ≠ 0) : ∀ n, q ≤ n → iter step n l = iter step q l
 | 0, hn => by
  obtain rfl : q = 0 := by omega
  rfl
 | n + 1, hn => by
  by_cases e : q = n + 1
  ·rw [e]
  ·have ih := iter_stop h n (by omega)
   show (if (iter step n l).1 = 0 then step n (iter step n l).2 else iter step n l) = _
   rw [ih, if_neg h]
def headS (fs : List S46) (q : Nat) (l : Int) : Int × Int :=
 (headE l (fs.getD q z46).f0 (fs.getD q z46).f1 (fs.getD q z46).f2 (fs.getD q z46).f3.length, l + (fs.getD q z46).f2)
def partS (G : Int) (fs : List S46) (f : S46) (x : S50) (j : Nat) (l : Int) : Int × Int := (partE G fs f.f1 f.f2 f.f3.length x ((partsOf x.f0.toNat).getD j .R), l)
def partsE (G : Int) (fs : List S46) (f : S46) (x : S50) : Int := (iter (partS G fs f x) (partsOf x.f0.toNat).length 0).1
def instrS (G : Int) (fs : List S46) (f : S46) (q : Nat) (l : Int) : Int × Int :=
 (if opE l (f.f3.getD q z50) (q + 1 == f.f3.length) = 0 then partsE G fs f (f.f3.getD q z50) else opE l (f.f3.getD q z50) (q + 1 == f.f3.length), l + newL (f.f3.getD q z50))
def codeS (G : Int) (fs : List S46) (i : Nat) (l : Int) : Int × Int := iter (instrS G fs (fs.getD i z46)) (fs.getD i z46).f3.length l
def firstE (G : Int) (fs : List S46) : Int :=
 if globE G = 0 then (if funcsE fs.length = 0 then (if (iter (headS fs) fs.length 0).1 = 0 then (iter (codeS G fs) fs.length (iter (headS fs) fs.length 0).2).1 else (iter (headS fs) fs.length 0).1) else funcsE fs.length) else globE G
theorem at46 {w : World} {A : Option Addr} {n : Nat} {xs : List S46} (h : k46.C w A n xs) (i : Nat) (hi : i < xs.length) (hn : n = xs.length) : ∃ ad A3 c3, A = some ad ∧ w.cell? (ad.add (i * 4)) = some (.int .i64 xs[i].f0) ∧ w.cell? ⟨(ad.add (i * 4)).block, (ad.add (i * 4)).off + 1, none⟩ = some (.int .i64 xs[i].f1) ∧ w.cell? ⟨(ad.add (i * 4)).block, (ad.add (i * 4)).off + 2, none⟩ = some (.int .i64 xs[i].f2) ∧ w.cell? ⟨(ad.add (i * 4)).block, (ad.add (i * 4)).off + 3, none⟩ = some (.slice A3 xs[i].f3.length c3) ∧ k50.C w A3 xs[i].f3.length xs[i].f3 := by
 obtain ⟨ad, h1, h2⟩ := h.2.2 (by omega)
 obtain ⟨c, hc, hK, hcell⟩ := h2 i xs[i] (List.getElem?_eq_getElem hi)
 obtain ⟨A3, c3, rfl, _, g3⟩ := k46_open hK
 refine ⟨ad, A3, c3, h1, hcell 0 _ rfl, ?_, ?_, ?_, g3⟩
 ·rw [← add_field ad (i * 4) 1 (by omega)]; exact hcell 1 _ rfl
 ·rw [← add_field ad (i * 4) 2 (by omega)]; exact hcell 2 _ rfl
 ·rw [← add_field ad (i * 4) 3 (by omega)]; exact hcell 3 _ rfl
theorem at50 {w : World} {A : Option Addr} {n : Nat} {xs : List S50} (h : k50.C w A n xs) (i : Nat) (hi : i < xs.length) (hn : n = xs.length) : ∃ ad A5 c5 A6 c6, A = some ad ∧ InsW w (ad.add (i * 7)) xs[i] A5 c5 A6 c6 ∧ (Kd.int .i64).C w A5 xs[i].f5.length xs[i].f5 ∧ (Kd.int .i64).C w A6 xs[i].f6.length xs[i].f6 := by
 obtain ⟨ad, h1, h2⟩ := h.2.2 (by omega)
 obtain ⟨c, hc, hK, hcell⟩ := h2 i xs[i] (List.getElem?_eq_getElem hi)
 obtain ⟨A5, c5, A6, c6, rfl, _, g5, _, g6⟩ := k50_open hK
 refine ⟨ad, A5, c5, A6, c6, h1, ⟨hcell 0 _ rfl, ?_, ?_, ?_, ?_, ?_, ?_⟩, g5, g6⟩
 ·rw [← add_field ad (i * 7) 1 (by omega)]; exact hcell 1 _ rfl
 ·rw [← add_field ad (i * 7) 2 (by omega)]; exact hcell 2 _ rfl
 ·rw [← add_field ad (i * 7) 3 (by omega)]; exact hcell 3 _ rfl
 ·rw [← add_field ad (i * 7) 4 (by omega)]; exact hcell 4 _ rfl
 ·rw [← add_field ad (i * 7) 5 (by omega)]; exact hcell 5 _ rfl
 ·rw [← add_field ad (i * 7) 6 (by omega)]; exact hcell 6 _ rfl
theorem heads_of {w : World} {A : Option Addr} {xs : List S46} (h : k46.C w A xs.length xs) : HeadsC w A xs := fun i hi => by
 obtain ⟨ad, A3, c3, e, h0, h1, _⟩ := at46 h i hi rfl
 exact ⟨ad, e, h0, h1⟩
theorem getD46 (xs : List S46) (i : Nat) (h : i < xs.length) : xs.getD i z46 = xs[i] := by rw [List.getD_eq_getElem?_getD, List.getElem?_eq_getElem h]; rfl
theorem getD50 (xs : List S50) (i : Nat) (h : i < xs.length) : xs.getD i z50 = xs[i] := by rw [List.getD_eq_getElem?_getD, List.getElem?_eq_getElem h]; rfl
theorem AskPost.cases {w w' : World} {er at_ : Int} {e : Ending} (h : AskPost w er at_ e w') : (er = 0 ∧ e = .returned (.tuple #[]) ∨ er ≠ 0 ∧ e = .panicked [{ v := stopV er at_, recovered := false }]) ∧ Below w.heap.size w w' := by
 obtain ⟨he, hb⟩ := h
 by_cases h0 : er = 0
 ·rw [if_pos h0] at he; exact ⟨.inl ⟨h0, he⟩, hb⟩
 ·rw [if_neg h0] at he; exact ⟨.inr ⟨h0, he⟩, hb⟩
theorem headE_ok {locs P R V n : Int} (h : headE locs P R V n = 0) : 0 ≤ V ∧ locs + V < 1048576 := by
 unfold headE at h
 by_cases hb : headB P R V n = true
 ·rw [if_pos hb] at h
  unfold headB at hb
  simp only [Bool.and_eq_true, decide_eq_true_eq] at hb
  by_cases h1 : 1 ≤ n
  ·rw [if_pos h1] at h
   by_cases h2 : locs + V < 1048576
   ·omega
   ·rw [if_neg h2] at h; omega
  ·rw [if_neg h1] at h; omega
 ·rw [if_neg hb] at h; omega
theorem opE_ok {locs : Int} {x : S50} {last : Bool} (hl : 0 ≤ locs ∧ locs < 1048576) (h : opE locs x last = 0) : 1 ≤ x.f0 ∧ x.f0 < 18 ∧ 0 ≤ locs + newL x ∧ locs + newL x < 1048576 := by
 unfold opE at h
 by_cases h0 : 1 ≤ x.f0 ∧ x.f0 < 18
 ·rw [if_pos h0] at h
  refine ⟨h0.1, h0.2, ?_⟩
  by_cases h1 : plainB (partsOf x.f0.toNat) (usesB x) = true
  ·rw [if_pos h1] at h
   by_cases h2 : last = false ∨ x.f0 = 13 ∨ x.f0 = 15
   ·rw [if_pos h2] at h
    unfold newL
    by_cases h3 : x.f0 = 6
    ·rw [if_pos h3] at h ⊢
     by_cases h4 : locs + 1 < 1048576
     ·omega
     ·rw [if_neg h4] at h; omega
    ·rw [if_neg h3]; omega
   ·rw [if_neg h2] at h; omega
  ·rw [if_neg h1] at h; omega
 ·rw [if_neg h0] at h; omega
theorem may_ask {G : Int} {fs : List S46} {f : S46} {x : S50} (j : Nat) (k : PK) (hj : (partsOf x.f0.toNat)[j]? = some k) (h : (iter (partS G fs f x) j 0).1 = 0) : mayAsk fs x k := by
 have key : x.f0.toNat = 11 → (j = 1 ∨ j = 2) → 0 ≤ x.f4 ∧ x.f4 < fs.length := by
  intro h11 hj12
  have h1 : (iter (partS G fs f x) 1 0).1 = 0 := by
   rcases hj12 with rfl | rfl
   ·exact h
   ·by_cases e : (iter (partS G fs f x) 1 0).1 = 0
    ·exact e
    ·rw [iter_stop e 2 (by omega)] at h; exact h
  have h2 : (iter (partS G fs f x) 1 0).1 = numE 0 fs.length 14 x.f4 := by
   rw [iter_next (q := 0) (l' := 0) rfl]
   show partE G fs f.f1 f.f2 f.f3.length x ((partsOf x.f0.toNat).getD 0 .R) = _
   rw [h11]
   rfl
  rw [h2] at h1
  unfold numE at h1
  by_cases e : 0 ≤ x.f4 ∧ x.f4 < fs.length
  ·exact e
  ·rw [if_neg e] at h1; omega
 generalize hop : x.f0.toNat = op at hj key
 unfold partsOf at hj
 rcases op with _ | _ | _ | _ | _ | _ | _ | _ | _ | _ | _ | _ | _ | _ | _ | _ | _ | _ | op <;> rcases j with _ | _ | _ | j <;> simp at hj <;> subst hj <;> first | trivial | exact key rfl (.inl rfl) | exact key rfl (.inr rfl)
theorem iter_err {step : Nat → Int → Int × Int} {q n : Nat} {l l' er l2 : Int} (hi : iter step q l = (0, l')) (hs : step q l' = (er, l2)) (h0 : er ≠ 0) (hq : q < n) : iter step n l = (er, l2) := by
 have h1 : iter step (q + 1) l = (er, l2) := by rw [iter_next hi, hs]
 rw [iter_stop (q := q + 1) (by rw [h1]; exact h0) n (by omega), h1]
theorem firstE_heads {G : Int} {fs : List S46} {q : Nat} {locs er l2 : Int} (h1 : globE G = 0) (h2 : funcsE fs.length = 0) (hi : iter (headS fs) q 0 = (0, locs)) (hs : headS fs q locs = (er, l2)) (h0 : er ≠ 0) (hq : q < fs.length) : firstE G fs = er := by
 unfold firstE
 rw [if_pos h1, if_pos h2, iter_err hi hs h0 hq, if_neg h0]
theorem firstE_code {G : Int} {fs : List S46} {i : Nat} {L l1 er l2 : Int} (h1 : globE G = 0) (h2 : funcsE fs.length = 0) (hH : iter (headS fs) fs.length 0 = (0, L)) (hi : iter (codeS G fs) i L = (0, l1)) (hs : codeS G fs i l1 = (er, l2)) (h0 : er ≠ 0) (hq : i < fs.length) : firstE G fs = er := by
 unfold firstE
 rw [if_pos h1, if_pos h2, hH, if_pos rfl, iter_err hi hs h0 hq]
theorem firstE_ok {G : Int} {fs : List S46} {L l1 : Int} (h1 : globE G = 0) (h2 : funcsE fs.length = 0) (hH : iter (headS fs) fs.length 0 = (0, L)) (hi : iter (codeS G fs) fs.length L = (0, l1)) : firstE G fs = 0 := by
 unfold firstE
 rw [if_pos h1, if_pos h2, hH, if_pos rfl, hi]
def TAB_31.T2 : Bool × List (List Nat × List Nat) := (true, [([], []), ([], []), ([0, 1], [0, 1]), ([2], [2]), ([3, 1, 0, 1, 2, 3], [3])])
def TAB_31.B2 : List Nat := [0, 0, 3, 7, 15]
theorem TAB_31.tab2 : rtab .any (opsOf Tryd.f31 2) = TAB_31.T2 := by kernel_rfl
theorem TAB_31.bits2 : waitsOk TAB_31.T2.2 TAB_31.B2 = true := by kernel_rfl
def OnlyN (Q : Exit → Act → World → Prop) : Exit → Act → World → Prop
 | .normal, a, w => Q .normal a w
 | _, _, _ => False
theorem wp_only {P : Program} {c : Code} {Q : Exit → Act → World → Prop} {a : Act} {w : World} (h : c.wp P (OnlyN Q) a w) : c.wp P Q a w :=
 Code.wp_mono (fun e a w hq => by cases e <;> first | exact hq | exact hq.elim) h
def LoopA (wo : World) (g : Nat) (G : Int) (A : Option Addr) (n c B : Nat) (locs : Int) (w' : World) : Prop := AskW w' g 78 [] G A n c B locs 0 ∧ Below wo.heap.size wo w' ∧ 0 ≤ locs ∧ locs < 1048576
theorem LoopA.below {wo w' w1 : World} {g : Nat} {G : Int} {A : Option Addr} {n c B : Nat} {locs : Int} (h : LoopA wo g G A n c B locs w') (hb : Below w'.heap.size w' w1) : LoopA wo g G A n c B locs w1 := ⟨h.1.below hb, h.2.1.trans (hb.mono h.2.1.size), h.2.2⟩
theorem partS_at {G : Int} {fs : List S46} {f : S46} {x : S50} {j op m : Nat} {pk : PK} (hP : partsOf x.f0.toNat = partsOf op) (hk : (partsOf op)[j]? = some pk) (hm : m = f.f3.length) (l : Int) : partS G fs f x j l = (partE G fs f.f1 f.f2 m x pk, l) := by
 unfold partS
 rw [hP, List.getD_eq_getElem?_getD, hk, Option.getD_some, hm]
theorem may_at {G : Int} {fs : List S46} {f : S46} {x : S50} {j op : Nat} {pk : PK} (hP : partsOf x.f0.toNat = partsOf op) (hk : (partsOf op)[j]? = some pk) (hi : iter (partS G fs f x) j 0 = (0, 0)) : mayAsk fs x pk := may_ask (G := G) (f := f) j pk (by rw [hP]; exact hk) (by rw [hi])
theorem parts_err {G : Int} {fs : List S46} {f : S46} {x : S50} {j op np : Nat} {er : Int} (hP : partsOf x.f0.toNat = partsOf op) (hn : np = (partsOf op).length) (hi : iter (partS G fs f x) j 0 = (0, 0)) (hs : partS G fs f x j 0 = (er, 0)) (h0 : er ≠ 0) (hj : j < np) : partsE G fs f x = er := by
 unfold partsE
 rw [hP, ← hn, iter_err hi hs h0 hj]
theorem parts_end {G : Int} {fs : List S46} {f : S46} {x : S50} {op np : Nat} (hP : partsOf x.f0.toNat = partsOf op) (hn : np = (partsOf op).length) (hi : iter (partS G fs f x) np 0 = (0, 0)) : partsE G fs f x = 0 := by
 unfold partsE
 rw [hP, ← hn, hi]
def FirstPost (w : World) (E : Int) (e : Ending) (w' : World) : Prop := e = .returned (.int .i64 E) ∧ Below w.heap.size w w'
set_option maxRecDepth 100000 in
set_option maxHeartbeats 16000000 in
theorem first_any (G : Int) (A : Option Addr) (c : Nat) (fs : List S46) (w : World) (hF : k46.C w A fs.length fs) : Calls Tryd.prog 31 #[.agg #[.int .i64 G, .slice A fs.length c]] w fun e w' => FirstPost w (firstE G fs) e w' := by
 have hmf : ∀ (fn : Fn) (first cap : Array Value) (w : World), (Instr.makeFunc fn first cap).run Tryd.prog w = .ok (.func fn first cap) w := fun _ _ _ _ => rfl
 have HB := Aside0.mk (Below.refl w.heap.size w)
 have HF := Aside0.mk hF
 have hm : fs.length ≤ 9223372036854775807 := Kd.C_max hF
 obtain ⟨n, hn⟩ : ∃ n, n = fs.length := ⟨_, rfl⟩
 have Hn := Aside0.mk hn
 rw [← hn] at hm ⊢
 clear hF hn
 go_enter_defers Tryd.func31, Tryd.ntmps31
 go_wp2_with (first | ((with_reducible refine gate_dst (N := 1) rfl ?_); refine box_event ?hg (N := 1) ?hd (cs := #[.int .i64 G, .slice A n c]) (t := 24) ?hr ?_; (case hd => rfl); (case hg => rfl); (case hr => first | (go_simp; done) | (go_simp; rfl)); intro g1 hg w1 hbox hb; have G1 : Aside0 (w.heap.size ≤ g1) := ⟨by have := HB.out.size; omega⟩; have HB_ := Aside0.mk (HB.out.trans (hb.mono HB.out.size)); clear HB; have HB := HB_; clear HB_; have BK1 := Aside0.mk hbox; clear hg hbox hb) | ((with_reducible refine gate_dst (N := 2) rfl ?_); refine box_event ?hg (N := 2) ?hd (cs := #[.int .i64 0]) (t := 27) ?hr ?_; (case hd => rfl); (case hg => rfl); (case hr => first | (go_simp; done) | (go_simp; rfl)); intro g2 hg w2 hbox hb; have G2 : Aside0 (w.heap.size ≤ g2) := ⟨by have := HB.out.size; omega⟩; have HB_ := Aside0.mk (HB.out.trans (hb.mono HB.out.size)); have BK1_ := Aside0.mk (blk_below BK1.out hb); clear HB BK1; have HB := HB_; have BK1 := BK1_; clear HB_ BK1_; have BK2 := Aside0.mk hbox; clear hg hbox hb; have hz0 : w2.cell? ⟨g1, 0, none⟩ = some (.int .i64 G) := (blk_cell BK1.out 0).trans rfl; have hz1 : w2.cell? ⟨g1, 1, none⟩ = some (.slice A n c) := (blk_cell BK1.out 1).trans rfl))
 refine wp_only ?_
 refine start_ (n := 5) (S := fun w' => w'.cell? ⟨g1, 0, none⟩ = some (.int .i64 G) ∧ w'.cell? ⟨g1, 1, none⟩ = some (.slice A n c)) (ds := []) #[false, false, false, false, false] (by kernel_rfl) rfl rfl ⟨hz0, hz1⟩ (fun hHeld => ?_)
 refine with_tabW TAB_31.tab2 TAB_31.bits2 (fun HT_ HW_ => ?_)
 refine pt 0 (some 12) (v := ?_) (a' := ?_) rfl rfl (take_ofW HT_.out HW_.out (by kernel_rfl)) (fun _ _ _ h => h) (Or.inl ⟨by rfl, ?_⟩) hHeld ?_ ?_
 rotate_left; (rintro w' ⟨s0, s1⟩; go_simp; with_reducible rfl); rotate_left; (simp only [Act.put, pn, i64_w, i32_w]; rfl)
 refine one_ (i := 1) (N := some 13) #[true, true, false, false, false] rfl rfl (one_of HT_.out (by kernel_rfl)) (by decide) (fun K hK => ?_)
 refine goes_ Tryd.func38 (by kernel_rfl) rfl #[] (by rfl) rfl rfl (by simp) ?_
 with_reducible refine (ops_any _).mono ?_
 rintro e_ wo ⟨B, rfl, hO, hGB, hb⟩
 refine ⟨_, rfl, ?_⟩
 have HO := Aside0.mk hO
 have HBo : Aside0 (Below w2.heap.size w2 wo) := ⟨(below_drew (Below.refl w2.heap.size w2)).trans hb⟩
 clear hO hGB hb
 refine hK.out _ _ ⟨pw_cell_below HBo.out hz0, pw_cell_below HBo.out hz1⟩ (fun hHeld => ?_)
 clear hK K
 refine norm_ (a' := ?_) ?_ ?_
 rotate_left
 ·show Act.put _ (some 13) _ = _
  simp only [Act.put, pn, i64_w, i32_w]
  rfl
 refine pq 2 (some 14) (v := ?_) (a' := ?_) rfl rfl (any_of HT_.out (by kernel_rfl)) (fun _ _ _ h => h) (Or.inl ⟨by rfl, ?_⟩) ?_ ?_
 rotate_left; (intro w'; go_simp; with_reducible rfl); rotate_left; (simp only [Act.put, pn, i64_w, i32_w]; rfl)
 refine one_ (i := 3) (N := some 15) #[true, true, true, true, false] rfl rfl (one_of HT_.out (by kernel_rfl)) (by decide) (fun K hK => ?_)
 refine value_ (w1 := ?_) (v := ?_) (by rfl) rfl ?_ ?_
 rotate_left 2
 ·go_simp
  constructor
  ·rfl
  ·rfl
 show K _ (World.alloc wo (Obj.cells #[Value.int IntKind.i64 G, Value.slice A n c, Value.slice (some ⟨B, 0, none⟩) 18 18, Value.int IntKind.i64 0, Value.int IntKind.i64 0] 78))
 refine hK.out _ _ ⟨pw_cell_below (below_alloc (Below.refl _ _) _) (pw_cell_below HBo.out hz0), pw_cell_below (below_alloc (Below.refl _ _) _) (pw_cell_below HBo.out hz1)⟩ (fun hHeld => ?_)
 clear hK K
 refine norm_ (a' := ?_) ?_ ?_
 rotate_left
 ·show Act.put _ (some 15) _ = _
  simp only [Act.put, pn, i64_w, i32_w]
  rfl
 refine pq 4 (some 3) (v := ?_) (a' := ?_) rfl rfl (any_of HT_.out (by kernel_rfl)) (fun _ _ _ h => h) (Or.inl ⟨by rfl, ?_⟩) ?_ ?_
 rotate_left; (intro w'; go_simp; with_reducible rfl); rotate_left; (simp only [Act.put, pn, i64_w, i32_w]; rfl)
 refine done_ (done_of HT_.out (by kernel_rfl)) ?_
 clear hHeld HT_ HW_ hz0 hz1
 refine (show OnlyN _ Exit.normal _ _ from ?_)
 unfold OnlyN
 obtain ⟨g, hg⟩ : ∃ g, g = wo.heap.size := ⟨_, rfl⟩
 have HLo : Aside0 (LoopA wo g G A n c B 0 (wo.alloc (.cells #[.int .i64 G, .slice A n c, .slice (some ⟨B, 0, none⟩) 18 18, .int .i64 0, .int .i64 0] 78))) := ⟨by rw [hg]; exact blk_at _, below_alloc (Below.refl _ _) _, by omega, by omega⟩
 have HG : Aside0 (wo.heap.size ≤ g) := ⟨by omega⟩
 obtain ⟨w3, hw3⟩ : ∃ w3, w3 = wo.alloc (.cells #[.int .i64 G, .slice A n c, .slice (some ⟨B, 0, none⟩) 18 18, .int .i64 0, .int .i64 0] 78) := ⟨_, rfl⟩
 rw [← hw3] at HLo ⊢
 rw [← hg]
 clear hg hw3
 have K1 := Aside0.mk (blk_below BK1.out HBo.out)
 have K2 := Aside0.mk (blk_below BK2.out HBo.out)
 have HBw : Aside0 (Below w.heap.size w wo) := ⟨HB.out.trans (HBo.out.mono HB.out.size)⟩
 clear BK1 BK2 HBo HB
 have hz0 : w3.cell? ⟨g1, 0, none⟩ = some (.int .i64 G) := (blk_cell (blk_below K1.out HLo.out.2.1) 0).trans rfl
 have hz1 : w3.cell? ⟨g1, 1, none⟩ = some (.slice A n c) := (blk_cell (blk_below K1.out HLo.out.2.1) 1).trans rfl
 go_wp2_with fail
 refine (globals_any g G 0 w3 HLo.out.1.c4).mono ?_
 rintro e w' hp
 obtain ⟨hc, hb⟩ := AskPost.cases hp
 have HLn := Aside0.mk (HLo.out.below hb)
 clear hp
 rcases hc with ⟨h0, rfl⟩ | ⟨h0, rfl⟩
 rotate_left
 ·have HE : Aside0 (firstE G fs = globE G) := ⟨by unfold firstE; rw [if_neg h0]⟩
  have HBn : Aside0 (Below wo.heap.size wo w') := ⟨HLn.out.2.1⟩
  go_wp2_with fail
  refine leaves_cons (f := 57) (args := #[.pointer (some ⟨g2, 0, none⟩)]) (by simp) (by simp [go_sem]) ?_
  refine (catch_stop g2 0 _ 0 w' (blk_below K2.out HBn.out)).mono ?_
  rintro e u' w'' ⟨rfl, rfl, hw⟩
  have hcR : w''.cell? ⟨g2, 0, none⟩ = some (.int .i64 (globE G)) := by rw [hw]; exact (blk_cell ((blk_set (blk_alloc (blk_below K2.out HBn.out) _) 0 _).trans rfl) 0).trans rfl
  have HPo : Aside0 (FirstPost w (firstE G fs) (.returned (.int .i64 (globE G))) w'') := ⟨by rw [HE.out], by rw [hw]; exact below_set (HBw.out.trans ((below_alloc HBn.out _).mono HBw.out.size)) G2.out⟩
  clear hw
  simp [Leaves, settle, results, Tryd.results31, go_sem, hcR]
  exact HPo.out
 have E1 := Aside0.mk h0
 clear h0 hb HLo hz0 hz1
 have HLo := HLn
 clear HLn
 obtain ⟨w4, rfl⟩ : ∃ w4, w4 = w' := ⟨_, rfl⟩
 have hz1 : w4.cell? ⟨g1, 1, none⟩ = some (.slice A n c) := (blk_cell (blk_below K1.out HLo.out.2.1) 1).trans rfl
 go_wp2_with fail
 refine (funcs_any g n 0 w4 HLo.out.1.c4).mono ?_
 rintro e w' hp
 obtain ⟨hc, hb⟩ := AskPost.cases hp
 have HLn := Aside0.mk (HLo.out.below hb)
 clear hp
 rcases hc with ⟨h0, rfl⟩ | ⟨h0, rfl⟩
 rotate_left
 ·have HE : Aside0 (firstE G fs = funcsE n) := ⟨by unfold firstE; rw [if_pos E1.out, if_neg (by rw [← Hn.out]; exact h0), ← Hn.out]⟩
  have HBn : Aside0 (Below wo.heap.size wo w') := ⟨HLn.out.2.1⟩
  go_wp2_with fail
  refine leaves_cons (f := 57) (args := #[.pointer (some ⟨g2, 0, none⟩)]) (by simp) (by simp [go_sem]) ?_
  refine (catch_stop g2 0 _ 0 w' (blk_below K2.out HBn.out)).mono ?_
  rintro e u' w'' ⟨rfl, rfl, hw⟩
  have hcR : w''.cell? ⟨g2, 0, none⟩ = some (.int .i64 (funcsE n)) := by rw [hw]; exact (blk_cell ((blk_set (blk_alloc (blk_below K2.out HBn.out) _) 0 _).trans rfl) 0).trans rfl
  have HPo : Aside0 (FirstPost w (firstE G fs) (.returned (.int .i64 (funcsE n))) w'') := ⟨by rw [HE.out], by rw [hw]; exact below_set (HBw.out.trans ((below_alloc HBn.out _).mono HBw.out.size)) G2.out⟩
  clear hw
  simp [Leaves, settle, results, Tryd.results31, go_sem, hcR]
  exact HPo.out
 have E2 := Aside0.mk h0
 clear h0 hb HLo hz1
 have HLo := HLn
 clear HLn
 obtain ⟨w5, rfl⟩ : ∃ w5, w5 = w' := ⟨_, rfl⟩
 have hz1 : w5.cell? ⟨g1, 1, none⟩ = some (.slice A n c) := (blk_cell (blk_below K1.out HLo.out.2.1) 1).trans rfl
 go_wp2_with fail
 clear hz1
 go_loopw [28] (fun v28 w' => ∃ (q : Nat) (locs : Int), q ≤ n ∧ v28 = .int .i64 (q : Int) ∧ Aside0 (iter (headS fs) q 0 = (0, locs)) ∧ Aside0 (LoopA wo g G A n c B locs w')) (fun i _ => n - (intOf i).toNat)
 case atStart => exact ⟨0, 0, Nat.zero_le _, rfl, ⟨rfl⟩, HLo⟩
 case round =>
  obtain ⟨q, locs, hq, rfl, HI, HL⟩ := hrel
  clear HLo
  have hz1 : wr.cell? ⟨g1, 1, none⟩ = some (.slice A n c) := (blk_cell (blk_below K1.out HL.out.2.1) 1).trans rfl
  by_cases hlt : q < n
  ·have hwp : wrap64 ((q : Int) + 1) = (q : Int) + 1 := wrap_in (by omega) (by omega)
   have q0 : (0 : Int) ≤ (q : Int) := by omega
   have q1 : (q : Int) < (n : Int) := by omega
   have hql : q < fs.length := by rw [← Hn.out]; exact hlt
   obtain ⟨ad, A3, c3, hAd, hy0, hy1, hy2, hy3, hC3⟩ := at46 HF.out q hql rfl
   subst hAd
   have HS : Aside0 (headS fs q locs = (headE locs fs[q].f0 fs[q].f1 fs[q].f2 fs[q].f3.length, locs + fs[q].f2)) := ⟨by unfold headS; rw [getD46 fs q hql]⟩
   obtain ⟨f, hf⟩ : ∃ f, f = fs[q] := ⟨_, rfl⟩
   rw [← hf] at hy0 hy1 hy2 hy3 HS
   clear hf hC3
   have HBr : Aside0 (Below w.heap.size w wr) := ⟨HBw.out.trans (HL.out.2.1.mono HBw.out.size)⟩
   replace hy0 := pw_cell_below HBr.out hy0
   replace hy1 := pw_cell_below HBr.out hy1
   replace hy2 := pw_cell_below HBr.out hy2
   replace hy3 := pw_cell_below HBr.out hy3
   have HHd := Aside0.mk (head_any g (ad.add (q * 4)) 78 [] G (some ad) n c B locs f.f0 f.f1 f.f2 f.f3.length 0 wo wr.drew (below_drew HL.out.2.1) HG.out HL.out.1 HL.out.2.2.1 HL.out.2.2.2 hy0 hy1 hy2)
   obtain ⟨m3, hm3⟩ : ∃ m3, m3 = f.f3.length := ⟨_, rfl⟩
   rw [← hm3] at hy3 HHd HS
   clear hm3 hy0 hy1 hy2
   go_wp2_with fail
   refine wp_tail 12 (by kernel_rfl) (by kernel_rfl) ?_
   simp only [List.take_succ_cons, List.take_zero, List.drop_succ_cons, List.drop_zero]
   repeat still_step
   refine wpStill_nil ?_
   go_wp2_with fail
   refine HHd.out.mono ?_
   rintro e w' ⟨he, hok, hzw, hkp⟩
   obtain ⟨er, her⟩ : ∃ er, er = headE locs f.f0 f.f1 f.f2 m3 := ⟨_, rfl⟩
   rw [← her] at he hok HS
   by_cases h0 : er = 0
   ·rw [if_pos h0] at he
    subst he
    have hb := headE_ok (her.symm.trans h0)
    have HL2 : Aside0 (LoopA wo g G (some ad) n c B (locs + f.f2) w') := ⟨hok h0, hzw, by have := HL.out.2.2; omega, hb.2⟩
    have HI2 : Aside0 (iter (headS fs) (q + 1) 0 = (0, locs + f.f2)) := ⟨by rw [iter_next HI.out, HS.out, h0]⟩
    clear hok hzw hkp hb h0 her hz1 hy3
    go_wp2_with fail
    go_roundw
    case rel => exact ⟨q + 1, locs + f.f2, by omega, by go_num, HI2, HL2⟩
    case measure => simp [intOf]; omega
   ·rw [if_neg h0] at he
    subst he
    clear her hok hkp hz1 hy3
    have HE : Aside0 (firstE G fs = er) := ⟨by exact firstE_heads E1.out (by rw [← Hn.out]; exact E2.out) HI.out HS.out h0 hql⟩
    have HBn : Aside0 (Below wo.heap.size wo w') := ⟨hzw⟩
    go_wp2_with fail
    refine leaves_cons (f := 57) (args := #[.pointer (some ⟨g2, 0, none⟩)]) (by simp) (by simp [go_sem]) ?_
    refine (catch_stop g2 0 _ 0 w' (blk_below K2.out HBn.out)).mono ?_
    rintro e u' w'' ⟨rfl, rfl, hw⟩
    have hcR : w''.cell? ⟨g2, 0, none⟩ = some (.int .i64 (er)) := by rw [hw]; exact (blk_cell ((blk_set (blk_alloc (blk_below K2.out HBn.out) _) 0 _).trans rfl) 0).trans rfl
    have HPo : Aside0 (FirstPost w (firstE G fs) (.returned (.int .i64 (er))) w'') := ⟨by rw [HE.out], by rw [hw]; exact below_set (HBw.out.trans ((below_alloc HBn.out _).mono HBw.out.size)) G2.out⟩
    clear hw
    simp [Leaves, settle, results, Tryd.results31, go_sem, hcR]
    exact HPo.out
  ·obtain rfl : n = q := by omega
   have HI0 : Aside0 (iter (headS fs) fs.length 0 = (0, locs)) := ⟨by rw [← Hn.out]; exact HI.out⟩
   obtain ⟨L0, rfl⟩ : ∃ L0, L0 = locs := ⟨_, rfl⟩
   clear HI hlt hq
   have HLo := HL
   clear HL
   obtain ⟨w6, rfl⟩ : ∃ w6, w6 = wr := ⟨_, rfl⟩
   go_wp2_with fail
   clear hz1
   go_loopw [48] (fun v48 w' => ∃ (q : Nat) (locs : Int), q ≤ n ∧ v48 = .int .i64 (q : Int) ∧ Aside0 (iter (codeS G fs) q L0 = (0, locs)) ∧ Aside0 (LoopA wo g G A n c B locs w')) (fun i _ => n - (intOf i).toNat)
   case atStart => exact ⟨0, L0, Nat.zero_le _, rfl, ⟨rfl⟩, HLo⟩
   case round =>
    obtain ⟨q, locs, hq, rfl, HI, HL⟩ := hrel
    clear HLo
    by_cases hlt : q < n
    ·have hwp : wrap64 ((q : Int) + 1) = (q : Int) + 1 := wrap_in (by omega) (by omega)
     have q0 : (0 : Int) ≤ (q : Int) := by omega
     have q1 : (q : Int) < (n : Int) := by omega
     have hql : q < fs.length := by rw [← Hn.out]; exact hlt
     have hz1 : wr.cell? ⟨g1, 1, none⟩ = some (.slice A n c) := (blk_cell (blk_below K1.out HL.out.2.1) 1).trans rfl
     obtain ⟨ad, A3, c3, hAd, hy0, hy1, hy2, hy3, hC3⟩ := at46 HF.out q hql rfl
     subst hAd
     have HCS : Aside0 (∀ l, codeS G fs q l = iter (instrS G fs fs[q]) fs[q].f3.length l) := ⟨fun l => by unfold codeS; rw [getD46 fs q hql]⟩
     obtain ⟨f, hf⟩ : ∃ f, f = fs[q] := ⟨_, rfl⟩
     rw [← hf] at hy0 hy1 hy2 hy3 hC3 HCS
     clear hf hy0
     have HY := Aside0.mk (And.intro hy1 (And.intro hy2 (And.intro hy3 hC3)))
     have hmm : f.f3.length ≤ 9223372036854775807 := Kd.C_max hC3
     obtain ⟨m, hm0⟩ : ∃ m, m = f.f3.length := ⟨_, rfl⟩
     have Hm := Aside0.mk hm0
     rw [← hm0] at hmm hy3
     clear hC3 hy1 hy2 hm0
     have HBr : Aside0 (Below w.heap.size w wr) := ⟨HBw.out.trans (HL.out.2.1.mono HBw.out.size)⟩
     replace hy3 := pw_cell_below HBr.out hy3
     go_wp2_with fail
     clear hz1 hy3 HBr
     obtain ⟨w7, rfl⟩ : ∃ w7, w7 = wr := ⟨_, rfl⟩
     obtain ⟨L1, rfl⟩ : ∃ L1, L1 = locs := ⟨_, rfl⟩
     go_loopw [60] (fun v60 w' => ∃ (k : Nat) (locs : Int), k ≤ m ∧ v60 = .int .i64 (k : Int) ∧ Aside0 (iter (instrS G fs f) k L1 = (0, locs)) ∧ Aside0 (LoopA wo g G (some ad) n c B locs w')) (fun i _ => m - (intOf i).toNat)
     case atStart => exact ⟨0, L1, Nat.zero_le _, rfl, ⟨rfl⟩, HL⟩
     case round =>
      obtain ⟨k, locs, hk, rfl, HI2, HL2⟩ := hrel
      clear HL
      by_cases hlt2 : k < m
      ·have hwp2 : wrap64 ((k : Int) + 1) = (k : Int) + 1 := wrap_in (by omega) (by omega)
       have k0 : (0 : Int) ≤ (k : Int) := by omega
       have k1 : (k : Int) < (m : Int) := by omega
       have hkl : k < f.f3.length := by rw [← Hm.out]; exact hlt2
       have hwl : wrap64 ((m : Int) - 1) = (m : Int) - 1 := wrap_in (by omega) (by omega)
       have HBr : Aside0 (Below w.heap.size w wr) := ⟨HBw.out.trans (HL2.out.2.1.mono HBw.out.size)⟩
       obtain ⟨hy1, hy2, hy3, hC3⟩ := HY.out
       obtain ⟨ad2, A5, c5, A6, c6, hAd2, hx, h5, h6⟩ := at50 hC3 k hkl rfl
       subst hAd2
       rw [← Hm.out] at hy3
       replace hy3 := pw_cell_below HBr.out hy3
       have HY3 := Aside0.mk hy3
       clear hC3
       have HIS : Aside0 (instrS G fs f k locs = (if opE locs f.f3[k] (k + 1 == f.f3.length) = 0 then partsE G fs f f.f3[k] else opE locs f.f3[k] (k + 1 == f.f3.length), locs + newL f.f3[k])) := ⟨by unfold instrS; rw [getD50 f.f3 k hkl]⟩
       obtain ⟨x, hxx⟩ : ∃ x, x = f.f3[k] := ⟨_, rfl⟩
       rw [← hxx] at hx h5 h6 HIS
       obtain ⟨lb, hlb⟩ : ∃ lb, lb = (k + 1 == f.f3.length) := ⟨_, rfl⟩
       have hlast : ((k : Int) == (m : Int) - 1) = lb := by rw [hlb, Hm.out, Bool.eq_iff_iff, beq_iff_eq, beq_iff_eq]; omega
       rw [← hlb] at HIS
       clear hxx hlb
       have HX := Aside0.mk (And.intro hx (And.intro h5 h6))
       clear hx h5 h6
       have HOp := Aside0.mk (op_any g (ad2.add (k * 7)) 78 [] G (some ad) n c B locs 0 x A5 c5 A6 c6 lb wo wr HL2.out.2.1 HG.out HL2.out.1 HL2.out.2.2.1 HL2.out.2.2.2 (HO.out.below HL2.out.2.1) (HX.out.1.below HBr.out))
       clear hy1 hy2
       go_wp2_with fail
       refine HOp.out.mono ?_
       rintro e w' ⟨he, hok, hzw, hkp⟩
       obtain ⟨er, her⟩ : ∃ er, er = opE locs x lb := ⟨_, rfl⟩
       rw [← her] at he hok HIS
       have HLr := Aside0.mk HL2.out.2.2
       clear hy3 hlast hwl HOp
       by_cases h0 : er = 0
       ·rw [if_pos h0] at he HIS
        subst he
        obtain ⟨o1, o2, o3, o4⟩ := opE_ok HLr.out (her.symm.trans h0)
        have HL3 : Aside0 (LoopA wo g G (some ad) n c B (locs + newL x) w') := ⟨hok h0, hzw, o3, o4⟩
        clear hok hkp h0 her hzw HL2 o3 o4
        obtain ⟨op, hop⟩ : ∃ op : Nat, x.f0 = (op : Int) := ⟨x.f0.toNat, by omega⟩
        obtain ⟨b, hrow, hR⟩ := HO.out op (by omega) (by omega)
        have HPt : Aside0 (partsOf x.f0.toNat = partsOf op) := ⟨by rw [hop, Int.toNat_natCast]⟩
        have HR := Aside0.mk hR
        have HBx : Aside0 (Below w.heap.size w w') := ⟨HBw.out.trans (HL3.out.2.1.mono HBw.out.size)⟩
        have hx0 := pw_cell_below HBx.out HX.out.1.1
        rw [hop] at hx0 o1 o2
        have h2 := HL3.out.1.c2
        replace hrow := pw_cell_below HL3.out.2.1 hrow
        have hnp := parts_le op
        obtain ⟨np, hnp0⟩ : ∃ np, np = (partsOf op).length := ⟨_, rfl⟩
        have Hnp := Aside0.mk hnp0
        rw [← hnp0] at hrow hnp
        clear hR hnp0 hop HBr
        obtain ⟨w8, rfl⟩ : ∃ w8, w8 = w' := ⟨_, rfl⟩
        go_wp2_with fail
        go_quiet (fail)
        have HL4 : Aside0 (LoopA wo g G (some ad) n c B (locs + newL x) (w8.drewN nq)) := ⟨HL3.out.below (pw_below_drewN (Below.refl _ _) nq)⟩
        clear hx0 h2 hrow HL3 HBx o1 o2
        obtain ⟨w9, rfl⟩ : ∃ w9, w9 = w8.drewN nq := ⟨_, rfl⟩
        obtain ⟨L2, hL2⟩ : ∃ L2, L2 = locs + newL x := ⟨_, rfl⟩
        have HL2e := Aside0.mk hL2
        rw [← hL2] at HL4
        clear hL2
        go_wp2_with fail
        have HW1 := Aside0.mk hwp
        have HW2 := Aside0.mk hwp2
        clear hwp hwp2
        go_loopw [91] (fun v91 w' => ∃ j : Nat, j ≤ np ∧ v91 = .int .i64 (j : Int) ∧ Aside0 (iter (partS G fs f x) j 0 = (0, 0)) ∧ Aside0 (LoopA wo g G (some ad) n c B L2 w')) (fun i _ => np - (intOf i).toNat)
        case atStart => exact ⟨0, Nat.zero_le _, rfl, ⟨rfl⟩, HL4⟩
        case round =>
         obtain ⟨j, hj, rfl, HI3, HLp⟩ := hrel
         clear HL4
         by_cases hlt3 : j < np
         ·have j0 : (0 : Int) ≤ (j : Int) := Int.natCast_nonneg j
          have j1 : (j : Int) < (np : Int) := Int.ofNat_lt.mpr hlt3
          have hwp3 : wrap64 ((j : Int) + 1) = (j : Int) + 1 := wrap_in (by omega) (by omega)
          have hjl : j < (partsOf op).length := by rw [← Hnp.out]; exact hlt3
          obtain ⟨pk, hpk⟩ : ∃ pk, (partsOf op)[j]? = some pk := ⟨_, List.getElem?_eq_getElem hjl⟩
          obtain ⟨c0, c1, c2, c3, hp, z0, z1, z2, z3⟩ := HR.out j pk hpk
          have HPS := Aside0.mk (partS_at (G := G) (fs := fs) HPt.out hpk Hm.out 0)
          have HMay := Aside0.mk (may_at HPt.out hpk HI3.out)
          clear hpk
          have hc0 := mask_is hp
          subst hc0
          obtain ⟨k1, a1, k2, a2, k3, a3, rfl, rfl, rfl⟩ := fns_is hp
          have HP := Aside0.mk hp
          clear hp
          replace z0 := pw_cell_below HLp.out.2.1 z0
          replace z1 := pw_cell_below HLp.out.2.1 z1
          replace z2 := pw_cell_below HLp.out.2.1 z2
          replace z3 := pw_cell_below HLp.out.2.1 z3
          have HB : Aside0 (Below w.heap.size w wr) := ⟨HBw.out.trans (HLp.out.2.1.mono HBw.out.size)⟩
          have HYr : Aside0 (wr.cell? ⟨(ad.add (q * 4)).block, (ad.add (q * 4)).off + 3, none⟩ = some (.slice (some ad2) m c3)) := ⟨by have := HY.out.2.2.1; rw [← Hm.out] at this; exact pw_cell_below HB.out this⟩
          have HPA := Aside0.mk (ask_part pk (.int .i64 (maskOf pk)) (.func (Fn.func k1) #[] a1) (.func (Fn.func k2) #[] a2) (.func (Fn.func k3) #[] a3) g (ad.add (q * 4)) (ad2.add (k * 7)) 78 [] G (some ad) c B L2 0 f.f1 f.f2 m fs x A5 c5 A6 c6)
          go_wp2_with fail
          obtain ⟨w10, hw10⟩ : ∃ w10, w10 = wr.alloc (.cells #[.int .i64 (maskOf pk), .func (Fn.func k1) #[] a1, .func (Fn.func k2) #[] a2, .func (Fn.func k3) #[] a3] 69) := ⟨_, rfl⟩
          obtain ⟨g10, hg10⟩ : ∃ g10, g10 = wr.heap.size := ⟨_, rfl⟩
          rw [← hw10, ← hg10]
          have HBx := Aside0.mk (show Below wr.heap.size wr w10 by rw [hw10]; exact below_alloc (Below.refl _ _) _)
          have hb1 : w10.cell? ⟨g10, 1, none⟩ = some (.func (Fn.func k1) #[] a1) := by rw [hw10, hg10]; exact (blk_cell (blk_at _) 1).trans rfl
          clear hw10 hg10
          have HB' := Aside0.mk (HB.out.trans (HBx.out.mono HB.out.size))
          have HLp' := Aside0.mk (HLp.out.below HBx.out)
          have hy3 := pw_cell_below HBx.out HYr.out
          clear HB HLp HYr HBx
          have HB := HB'
          have HLp := HLp'
          clear HB' HLp'
          have HBd : Aside0 (Below w.heap.size w w10.drew) := ⟨below_drew HB.out⟩
          have HLd := Aside0.mk (HLp.out.below (below_drew (Below.refl _ _)))
          obtain ⟨fn, cap, hc1, hen, hcall⟩ := HPA.out w10.drew (PartIs.below (HLd.out.2.1) HP.out) (Hn.out ▸ HLd.out.1) ((heads_of HF.out).below HBd.out) (pw_cell_below HBd.out HY.out.1) (pw_cell_below HBd.out HY.out.2.1) (HX.out.1.below HBd.out) (Kd.C_below HX.out.2.1 HBd.out) (Kd.C_below HX.out.2.2 HBd.out) HMay.out
          injection hc1 with hc1 _ hc2
          injection hc1 with hc1
          subst hc1 hc2
          obtain ⟨e2, he2⟩ : ∃ e2, e2 = partE G fs f.f1 f.f2 m x pk := ⟨_, rfl⟩
          rw [← he2] at hcall HPS
          clear he2
          have HCl := Aside0.mk hcall
          clear hcall z0 z1 z2 z3
          unfold Enters at hen
          refine wp_tail 10 (by kernel_rfl) (by kernel_rfl) ?_
          simp only [List.take_succ_cons, List.take_zero, List.drop_succ_cons, List.drop_zero]
          repeat still_step
          refine wpStill_nil ?_
          go_wp2_with fail
          refine HCl.out.mono ?_
          rintro e w' hp
          obtain ⟨hc, hb⟩ := AskPost.cases hp
          have HLn := Aside0.mk (HLd.out.below hb)
          clear hp hb hb1 hy3 hen HCl
          rcases hc with ⟨h0, rfl⟩ | ⟨h0, rfl⟩
          ·have HI3n : Aside0 (iter (partS G fs f x) (j + 1) 0 = (0, 0)) := ⟨by rw [iter_next HI3.out, HPS.out, h0]⟩
           clear h0
           go_wp2_with fail
           go_roundw
           case rel => exact ⟨j + 1, by omega, by go_num, HI3n, HLn⟩
           case measure => simp [intOf]; omega
          ·have HPe := Aside0.mk (parts_err HPt.out Hnp.out HI3.out HPS.out h0 hlt3)
           have HE : Aside0 (firstE G fs = e2) := ⟨by exact firstE_code E1.out (by rw [← Hn.out]; exact E2.out) HI0.out HI.out ((HCS.out L1).trans (iter_err HI2.out (by rw [← HPe.out]; exact HIS.out) h0 hkl)) h0 hql⟩
           have HBn : Aside0 (Below wo.heap.size wo w') := ⟨HLn.out.2.1⟩
           go_wp2_with fail
           refine leaves_cons (f := 57) (args := #[.pointer (some ⟨g2, 0, none⟩)]) (by simp) (by simp [go_sem]) ?_
           refine (catch_stop g2 0 _ 0 w' (blk_below K2.out HBn.out)).mono ?_
           rintro e u' w'' ⟨rfl, rfl, hw⟩
           have hcR : w''.cell? ⟨g2, 0, none⟩ = some (.int .i64 (e2)) := by rw [hw]; exact (blk_cell ((blk_set (blk_alloc (blk_below K2.out HBn.out) _) 0 _).trans rfl) 0).trans rfl
           have HPo : Aside0 (FirstPost w (firstE G fs) (.returned (.int .i64 (e2))) w'') := ⟨by rw [HE.out], by rw [hw]; exact below_set (HBw.out.trans ((below_alloc HBn.out _).mono HBw.out.size)) G2.out⟩
           clear hw
           simp [Leaves, settle, results, Tryd.results31, go_sem, hcR]
           exact HPo.out
         ·obtain rfl : np = j := by omega
          have HI2n : Aside0 (iter (instrS G fs f) (k + 1) L1 = (0, L2)) := ⟨by rw [iter_next HI2.out, HIS.out, parts_end HPt.out Hnp.out HI3.out, HL2e.out]⟩
          clear hlt3 hj
          have hwp2 := HW2.out
          go_wp2_with fail
          go_roundw
          case rel => exact ⟨k + 1, L2, by omega, by go_num, HI2n, HLp⟩
          case measure => simp [intOf]; omega
       ·rw [if_neg h0] at he HIS
        subst he
        clear her hok hkp
        have HE : Aside0 (firstE G fs = er) := ⟨by exact firstE_code E1.out (by rw [← Hn.out]; exact E2.out) HI0.out HI.out ((HCS.out L1).trans (iter_err HI2.out HIS.out h0 hkl)) h0 hql⟩
        have HBn : Aside0 (Below wo.heap.size wo w') := ⟨hzw⟩
        go_wp2_with fail
        refine leaves_cons (f := 57) (args := #[.pointer (some ⟨g2, 0, none⟩)]) (by simp) (by simp [go_sem]) ?_
        refine (catch_stop g2 0 _ 0 w' (blk_below K2.out HBn.out)).mono ?_
        rintro e u' w'' ⟨rfl, rfl, hw⟩
        have hcR : w''.cell? ⟨g2, 0, none⟩ = some (.int .i64 (er)) := by rw [hw]; exact (blk_cell ((blk_set (blk_alloc (blk_below K2.out HBn.out) _) 0 _).trans rfl) 0).trans rfl
        have HPo : Aside0 (FirstPost w (firstE G fs) (.returned (.int .i64 (er))) w'') := ⟨by rw [HE.out], by rw [hw]; exact below_set (HBw.out.trans ((below_alloc HBn.out _).mono HBw.out.size)) G2.out⟩
        clear hw
        simp [Leaves, settle, results, Tryd.results31, go_sem, hcR]
        exact HPo.out
      ·have hk2 : m = k := by omega
       subst hk2
       have HIn : Aside0 (iter (codeS G fs) (q + 1) L0 = (0, locs)) := ⟨by rw [iter_next HI.out, HCS.out, ← Hm.out, HI2.out]⟩
       clear hlt2 hk
       go_wp2_with fail
       go_roundw
       case rel => exact ⟨q + 1, locs, by omega, by go_num, HIn, HL2⟩
       case measure => simp [intOf]; omega
    ·obtain rfl : n = q := by omega
     have HE : Aside0 (firstE G fs = 0) := ⟨firstE_ok E1.out (by rw [← Hn.out]; exact E2.out) HI0.out (by rw [← Hn.out]; exact HI.out)⟩
     have hz2 : wr.cell? ⟨g2, 0, none⟩ = some (.int .i64 0) := (blk_cell (blk_below K2.out HL.out.2.1) 0).trans rfl
     have hf2 : wr.frozen? ⟨g2, 0, none⟩ = false := blk_frozen (blk_below K2.out HL.out.2.1) 0
     clear hlt hq
     go_wp2_with fail
     have hS := (blk_set (blk_below K2.out HL.out.2.1) 0 (.int .i64 0)).trans rfl
     clear hz2 hf2
     refine leaves_cons (f := 57) (args := #[.pointer (some ⟨g2, 0, none⟩)]) (by simp) (by simp [go_sem]) ?_
     refine (catch_idle g2 _).mono ?_
     rintro e u' w'' ⟨rfl, rfl, rfl⟩
     have hcR : ((wr.setCell ⟨g2, 0, none⟩ (.int .i64 0)).alloc (.cells #[.int .i64 0, .int .i64 0] 74)).cell? ⟨g2, 0, none⟩ = some (.int .i64 0) := (blk_cell (blk_alloc hS _) 0).trans rfl
     have HPo : Aside0 (FirstPost w (firstE G fs) (.returned (.int .i64 0)) ((wr.setCell ⟨g2, 0, none⟩ (.int .i64 0)).alloc (.cells #[.int .i64 0, .int .i64 0] 74))) := ⟨by rw [HE.out], below_alloc (below_set (HBw.out.trans (HL.out.2.1.mono HBw.out.size)) G2.out) _⟩
     clear hS
     simp [Leaves, settle, results, Tryd.results31, go_sem, hcR]
     exact HPo.out
def code_first.f (a0_0 : Int) (l0_1 : List S46) : Option Int := some (firstE a0_0 l0_1)
theorem code_first.calls (a0_0 : Int) (A0_1 : Option Addr) (c0_1 : Nat) (l0_1 : List (S46)) (r : Int) (w : World) (hr0_1 : Kd.C k46 w A0_1 l0_1.length l0_1) (hc0_1 : l0_1.length ≤ c0_1) (h : code_first.f a0_0 l0_1 = some r) :
  Calls Tryd.prog 31 #[.agg #[.int .i64 a0_0, .slice A0_1 l0_1.length c0_1]] w fun e w' => e = .returned (.int .i64 r) ∧ Below w.heap.size w w' := by
 obtain rfl := Option.some.inj h
 exact first_any a0_0 A0_1 c0_1 l0_1 w hr0_1
def code_Check.f (a0_0 : Int) (l0_1 : List S46) : Option Int := some (firstE a0_0 l0_1)
theorem code_Check.calls (a0_0 : Int) (A0_1 : Option Addr) (c0_1 : Nat) (l0_1 : List (S46)) (r : Int) (w : World) (hr0_1 : Kd.C k46 w A0_1 l0_1.length l0_1) (hc0_1 : l0_1.length ≤ c0_1) (h : code_Check.f a0_0 l0_1 = some r) :
  Calls Tryd.prog 12 #[.agg #[.int .i64 a0_0, .slice A0_1 l0_1.length c0_1]] w fun e w' => e = .returned (.int .i64 r) ∧ Below w.heap.size w w' := by
 obtain rfl := Option.some.inj h
 have HB := Aside0.mk (Below.refl w.heap.size w)
 have HF := Aside0.mk hr0_1
 clear hr0_1 hc0_1 h
 obtain ⟨n, hn⟩ : ∃ n, n = l0_1.length := ⟨_, rfl⟩
 have Hn := Aside0.mk hn
 rw [← hn] at HF ⊢
 clear hn
 go_enter Tryd.func12, Tryd.ntmps12
 go_wp2_with ((with_reducible refine gate_dst (N := 1) rfl ?_); refine box_event ?hg (N := 1) ?hd (cs := #[.int .i64 a0_0, .slice A0_1 n c0_1]) (t := 24) ?hr ?_; (case hd => rfl); (case hg => rfl); (case hr => first | (go_simp; done) | (go_simp; rfl)); intro g1 hg w1 hbox hb; have G1 : Aside0 (w.heap.size ≤ g1) := ⟨by have := HB.out.size; omega⟩; have HB_ := Aside0.mk (HB.out.trans (hb.mono HB.out.size)); clear HB; have HB := HB_; clear HB_; have BK1 := Aside0.mk hbox; clear hg hbox hb; have hz0 : w1.cell? ⟨g1, 0, none⟩ = some (.int .i64 a0_0) := (blk_cell BK1.out 0).trans rfl; have hz1 : w1.cell? ⟨g1, 1, none⟩ = some (.slice A0_1 n c0_1) := (blk_cell BK1.out 1).trans rfl)
 refine (show Calls Tryd.prog 31 #[.agg #[.int .i64 a0_0, .slice A0_1 n c0_1]] w1 _ from Hn.out ▸ first_any a0_0 A0_1 c0_1 l0_1 w1 (Kd.C_below (Hn.out ▸ HF.out) HB.out)).mono ?_
 rintro e w' ⟨rfl, hb⟩
 have HBn := Aside0.mk (HB.out.trans (hb.mono HB.out.size))
 clear hb
 go_wp2_with fail
 go_ret
 exact ⟨rfl, HBn.out⟩
end Go.Proofs.YteonppgdmhakoaaDoor.PC
