/- Above of package sums. No conditions. -/
import Derived.Test.YtgemcomcjojjbaaHBoth
import Derived.Great.Walk
namespace Go.Proofs.Ytgemcomcjojjbaa.PS
open Go.RowKit Go.Proofs.YtgemcomcjojjbaaW.PrintWords Go.Proofs.YtgemcomcjojjbaaW.PrintLast Go.Proofs.YtgemcomcjojjbaaW.PrintMore
set_option linter.unusedVariables false
set_option linter.unusedSimpArgs false

def leP (p : Int × Int) : Bool := decide (p.1 ≤ p.2)
theorem see23 (x y : Int) (v : Bool) (g : Nat) (w : World) (h : w.heap[g]? = some (.cells #[.bool v] 4 (0, 0))) : Calls Try.prog 23 #[.int .i64 x, .int .i64 y, .pointer (some ⟨g, 0, none⟩)] w fun e w' => e = .returned (.tuple #[]) ∧ w' = w.setCell ⟨g, 0, none⟩ (.bool (v && leP (x, y))) := by
  have hc : w.cell? ⟨g, 0, none⟩ = some (.bool v) := (blk_cell h 0).trans rfl
  have hf := blk_frozen h 0
  have H := Aside0.mk h
  clear h
  cases v with
  | false =>
    have HP : Aside0 (false = (false && leP (x, y))) := ⟨rfl⟩
    go_enter Try.func23, Try.ntmps23
    go_wp2_with fail
    go_end0
    exact ⟨rfl, by first | rfl | trivial⟩
  | true =>
    have HP : Aside0 (decide (x ≤ y) = (true && leP (x, y))) := ⟨rfl⟩
    go_enter Try.func23, Try.ntmps23
    go_wp2_with fail
    go_end0
    exact ⟨rfl, by first | rfl | trivial⟩
/-- What stands in the cell that the function captures. -/
def InvA (Wz : World) (g : Nat) (w3 : World) (don : List (Int × Int)) (w' : World) : Prop := w'.heap[g]? = some (.cells #[.bool (don.all leP)] 4 (0, 0)) ∧ KeepBut w3 w' g none ∧ Below Wz.heap.size Wz w'
def aboveS (a b : S31) : Bool := bothS a b && (pairsS a b).all leP
theorem above_any (a b : S31) (A0 : Option Addr) (c0 : Nat) (A1 : Option Addr) (c1 : Nat) (B0 : Option Addr) (d0 : Nat) (B1 : Option Addr) (d1 : Nat) (W : World)
    (h0 : kI.C W A0 a.f0.length a.f0) (l0 : a.f0.length ≤ c0) (h1 : kL.C W A1 a.f1.length a.f1) (l1 : a.f1.length ≤ c1)
    (h2 : kI.C W B0 b.f0.length b.f0) (l2 : b.f0.length ≤ d0) (h3 : kL.C W B1 b.f1.length b.f1) (l3 : b.f1.length ≤ d1)
    (ha : (1 + a.f1.length) * 24 ≤ 140737488355328) (hb : (1 + b.f1.length) * 24 ≤ 140737488355328) :
    Calls Try.prog 10 #[.agg #[.slice A0 a.f0.length c0, .slice A1 a.f1.length c1], .agg #[.slice B0 b.f0.length d0, .slice B1 b.f1.length d1]] W fun e w' => e = .returned (.bool (aboveS a b)) ∧ Below W.heap.size W w' := by
  have HBoth : Aside0 (∀ (g : Nat) (w : World), Below W.heap.size W w → W.heap.size ≤ g → w.heap[g]? = some (.cells #[.bool true] 4 (0, 0)) → Calls Try.prog 22 #[.agg #[.slice A0 a.f0.length c0, .slice A1 a.f1.length c1], .agg #[.slice B0 b.f0.length d0, .slice B1 b.f1.length d1], .func (Fn.func 23) #[] #[.pointer (some ⟨g, 0, none⟩)]] w fun e w' => e = .returned (.bool (bothS a b)) ∧ Below W.heap.size W w' ∧ (bothS a b = true → w'.heap[g]? = some (.cells #[.bool ((pairsS a b).all leP)] 4 (0, 0)))) := ⟨by
    intro g w hB hg hc
    refine (both_any 23 (.inl rfl) g a b A0 c0 A1 c1 B0 d0 B1 d1 W w hB hg (blk_lt hc) h0 l0 h1 l1 h2 l2 h3 l3 ha hb (InvA W g) ?_ ?_ ?_).mono ?_
    · exact fun w3 h3 => ⟨(h3.block g (blk_lt hc)).trans hc, KeepBut.refl _ _ _, hB.trans (h3.mono hB.size)⟩
    · exact fun w3 don w' h => h.2
    · intro w3 don x y w' h3 hI _
      refine (see23 x y _ g w' hI.1).mono ?_
      rintro e w'' ⟨rfl, rfl⟩
      refine ⟨rfl, ?_, hI.2.1.set_ 0 _, below_set hI.2.2 hg⟩
      rw [blk_set hI.1 0 _, List.all_append]
      simp
    · rintro e w' ⟨rfl, hB', _, h⟩
      refine ⟨rfl, hB', fun ht => ?_⟩
      obtain ⟨w3, _, h⟩ := h ht
      exact h.1⟩
  have HB0 := Aside0.mk (Below.refl W.heap.size W)
  obtain ⟨la, hla⟩ : ∃ la, la = a.f0.length := ⟨_, rfl⟩
  obtain ⟨ma, hma⟩ : ∃ ma, ma = a.f1.length := ⟨_, rfl⟩
  obtain ⟨lb, hlb⟩ : ∃ lb, lb = b.f0.length := ⟨_, rfl⟩
  obtain ⟨mb, hmb⟩ : ∃ mb, mb = b.f1.length := ⟨_, rfl⟩
  rw [← hla, ← hma, ← hlb, ← hmb] at HBoth ⊢
  clear h0 h1 h2 h3 l0 l1 l2 l3 ha hb hla hma hlb hmb
  go_enter Try.func10, Try.ntmps10
  go_wp2_with (first | ((with_reducible refine gate_dst (N := 2) rfl ?_); refine box_event ?hg (N := 2) ?hd (cs := #[.slice A0 la c0, .slice A1 ma c1]) (t := 31) ?hr ?_; (case hd => rfl); (case hg => rfl); (case hr => first | (go_simp; done) | (go_simp; rfl)); intro g2 hg w1 hbox hb; have BK2 := Aside0.mk hbox; have HB := Aside0.mk hb; clear HB0 hg hbox hb) | ((with_reducible refine gate_dst (N := 3) rfl ?_); refine box_event ?hg (N := 3) ?hd (cs := #[.slice B0 lb d0, .slice B1 mb d1]) (t := 31) ?hr ?_; (case hd => rfl); (case hg => rfl); (case hr => first | (go_simp; done) | (go_simp; rfl)); intro g3 hg w2 hbox hb; have BK2_ := Aside0.mk (blk_below BK2.out hb); have BK3 := Aside0.mk hbox; have HB_ := Aside0.mk (HB.out.trans (hb.mono HB.out.size)); clear HB BK2 hg hbox hb; have BK2 := BK2_; have HB := HB_; clear BK2_ HB_) | ((with_reducible refine gate_dst (N := 5) rfl ?_); refine box_event ?hg (N := 5) ?hd (cs := #[.bool false]) (t := 4) ?hr ?_; (case hd => rfl); (case hg => rfl); (case hr => first | (go_simp; done) | (go_simp; rfl)); intro g4 hg w4 hbox hb; have Hg4 : Aside0 (W.heap.size ≤ g4) := ⟨by have := HB.out.size; omega⟩; have BK2_ := Aside0.mk (blk_below BK2.out hb); have BK3_ := Aside0.mk (blk_below BK3.out hb); have BK4 := Aside0.mk hbox; have HB_ := Aside0.mk (HB.out.trans (hb.mono HB.out.size)); clear HB BK2 BK3 hg hbox hb; have BK2 := BK2_; have BK3 := BK3_; have HB := HB_; clear BK2_ BK3_ HB_; have hf4 := blk_frozen BK4.out 0; have hc4 : w4.cell? ⟨g4, 0, none⟩ = some (.bool false) := (blk_cell BK4.out 0).trans rfl; have hz0 : (w4.setCell ⟨g4, 0, none⟩ (.bool true)).cell? ⟨g2, 0, none⟩ = some (.slice A0 la c0) := (blk_cell (blk_far BK2.out (blk_ne BK2.out BK4.out (by decide)) _) 0).trans rfl; have hz1 : (w4.setCell ⟨g4, 0, none⟩ (.bool true)).cell? ⟨g2, 1, none⟩ = some (.slice A1 ma c1) := (blk_cell (blk_far BK2.out (blk_ne BK2.out BK4.out (by decide)) _) 1).trans rfl; have hy0 : (w4.setCell ⟨g4, 0, none⟩ (.bool true)).cell? ⟨g3, 0, none⟩ = some (.slice B0 lb d0) := (blk_cell (blk_far BK3.out (blk_ne BK3.out BK4.out (by decide)) _) 0).trans rfl; have hy1 : (w4.setCell ⟨g4, 0, none⟩ (.bool true)).cell? ⟨g3, 1, none⟩ = some (.slice B1 mb d1) := (blk_cell (blk_far BK3.out (blk_ne BK3.out BK4.out (by decide)) _) 1).trans rfl))
  refine (HBoth.out g4 _ (below_set HB.out Hg4.out) Hg4.out ((blk_set BK4.out 0 _).trans rfl)).mono ?_
  rintro e w' ⟨rfl, hB, hA⟩
  have HB2 := Aside0.mk hB
  clear hB hz0 hz1 hy0 hy1 hc4 hf4 HBoth
  cases hS : bothS a b with
  | false =>
    have HP : Aside0 (aboveS a b = false) := ⟨by unfold aboveS; rw [hS]; rfl⟩
    clear hA
    go_wp2_with fail
    go_ret
    exact ⟨ret_b HP.out.symm, HB2.out⟩
  | true =>
    have hc : w'.cell? ⟨g4, 0, none⟩ = some (.bool ((pairsS a b).all leP)) := (blk_cell (hA hS) 0).trans rfl
    have hf := blk_frozen (hA hS) 0
    have HP : Aside0 (aboveS a b = (pairsS a b).all leP) := ⟨by unfold aboveS; rw [hS]; rfl⟩
    clear hA
    go_wp2_with fail
    go_ret
    exact ⟨ret_b HP.out.symm, HB2.out⟩
end Go.Proofs.Ytgemcomcjojjbaa.PS
