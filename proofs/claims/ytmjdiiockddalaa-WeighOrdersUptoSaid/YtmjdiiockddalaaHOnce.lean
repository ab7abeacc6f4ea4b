import Derived.Test.YtmjdiiockddalaaPWx0
import Derived.Maps.OwnSet
import Derived.Maps.OwnOps
import Derived.Maps.Own
namespace Go.Proofs.Ytmjdiiockddalaa.PW
open Go.RowKit Go.Maps Go.Proofs.YtmjdiiockddalaaW.PrintWords Go.Proofs.YtmjdiiockddalaaW.PrintLast Go.Proofs.YtmjdiiockddalaaW.PrintMore
set_option linter.unusedVariables false
set_option linter.unusedSimpArgs false

theorem keyed3 : Keyed Try.prog 3 := int_keyed Try.underlying3
theorem wf_of {x : Int} (h0 : -9223372036854775808 ≤ x) (h1 : x ≤ 9223372036854775807) : (Lit.int .i64 x).wf = true := WalkArith.wf_i64 (by omega)

/-- A set of waiting things in a map block. -/
structure SetAt (w : World) (m : Nat) (L : List Int) : Prop where
  out : ∃ n D, w.ownsMap (H := Unit) Try.prog 3 unitElem m n D ∧ (∀ x : Int, has D (.int .i64 x) = decide (x ∈ L)) ∧ size D = L.length

theorem own_tight {w : World} {m n : Nat} {D : DataW Unit} (h : w.ownsMap Try.prog 3 unitElem m n D) : w.ownsMap Try.prog 3 unitElem m (size D) D := by
  obtain ⟨es, clock, hb, F, hs, rfl⟩ := h
  exact ⟨es, clock, hb, F, by rw [size_eq, length_sorted]; simp, rfl⟩

structure OnceAt (w : World) (B : Nat) (g m : Nat) (L : List Int) : Prop where
  out : ∃ line, w.heap[g]? = some (.cells #[line, .map (some m)] 59 (0, 0)) ∧ SetAt w m L ∧ (Kd.int .i64).Q 3 w B (fun _ => True) line L
  g : B ≤ g
  m : B ≤ m

def addq (L : List Int) (t : Int) : List Int := if t ∈ L then L else L ++ [t]

theorem zeroU (w : World) : (zeroValue 66).run Try.prog w = .ok (.agg #[]) w := by kernel_rfl

theorem SetAt.kept {w w' : World} {m : Nat} {L : List Int} {row : Option Nat} (h : SetAt w m L) (hg : w.grownBy w' row) (hne : some m ≠ row) : SetAt w' m L := by
  obtain ⟨n, D, ho, r⟩ := h
  exact ⟨n, D, ho.kept hg hne, r⟩
theorem OnceAt.below {w w' : World} {B g m : Nat} {L : List Int} (h : OnceAt w B g m L) (hb : Below w.heap.size w w') : OnceAt w' B g m L := by
  obtain ⟨⟨line, hblk, hs, hq⟩, hg, hm⟩ := h
  exact ⟨⟨line, blk_below hblk hb, hs.kept (grown_of_below hb none) (by simp), Kd.Q_below hq hb⟩, hg, hm⟩
theorem OnceAt.alloc {w : World} {B g m : Nat} {L : List Int} (h : OnceAt w B g m L) (o : Obj) : OnceAt (w.alloc o) B g m L := h.below (below_alloc (Below.refl _ _) o)

set_option maxHeartbeats 400000 in
theorem add_has (w : World) (B g m : Nat) (L : List Int) (t : Int) (ht0 : 0 ≤ t) (ht1 : t ≤ 1048576) (h : OnceAt w B g m L) (hL : t ∈ L) (hBs : B ≤ w.heap.size) :
    Calls Try.prog 33 #[.pointer (some ⟨g, 0, none⟩), .int .i64 t] w fun e w' => e = .returned (.tuple #[]) ∧ OnceAt w' B g m L ∧ Below B w w' := by
  have h0 := Aside0.mk h
  obtain ⟨⟨line, hblk, ⟨n, D, hown, hhas, hsize⟩, hq⟩, hg, hm⟩ := h
  have hd : has D (.int .i64 t) = true := by rw [hhas]; simpa using hL
  have hc0 := (blk_cell hblk 0).trans rfl
  have hc1 := (blk_cell hblk 1).trans rfl
  go_enter Try.func33, Try.ntmps33
  go_wp2_with (first | (at_lookup; refine wpList_lookup_own_unit _ rfl _ _ 57 rfl 3 66 keyed3 Try.underlying57 (zeroU _) m n D rfl hown _ _ rfl (keyOf_int_mk Try.underlying3 (wf_of (by omega) (by omega))) ?_))
  go_end0
  exact ⟨rfl, h0.out.alloc _, (Below.refl _ _).alloc hBs _⟩


theorem Q_mapne {w : World} {B m : Nat} {v : Value} {L : List Int} {es : Array MapEntry} {c : Nat} (h : (Kd.int .i64).Q 3 w B (fun _ => True) v L) (hm : w.heap[m]? = some (.map es c)) : (Kd.int .i64).Q 3 w B (fun k => k ≠ m) v L :=
  Kd.Q_mono (Kd.Q_bound h) (fun k hk => by
    obtain ⟨_, _, _, q, _, cells, hc⟩ := hk
    rintro rfl
    rw [hm] at hc
    cases hc)
theorem isMapBlk {w : World} {m n : Nat} {D : DataW Unit} (h : w.ownsMap Try.prog 3 unitElem m n D) : ∃ es c, w.heap[m]? = some (.map es c) := by
  obtain ⟨es, c, hb, _⟩ := h
  exact ⟨es, c, hb⟩
theorem map_ne_blk {w : World} {m g t : Nat} {cs : Array Value} {es : Array MapEntry} {c : Nat} (hm : w.heap[m]? = some (.map es c)) (hg : w.heap[g]? = some (.cells cs t (0, 0))) : some g ≠ some m := by
  intro he
  injection he with he
  subst he
  rw [hm] at hg
  cases hg

section
variable {P : Program} {ops : Array Oper} {rest : List Oper} {o : Oper} {a : Act} {Q' : Exit → Act → World → Prop} {α : Type}
/-- The same, the new slice written out. -/
theorem Q_append_sl (d : Kd α) {w0 W : World} (base : Nat) (hgd : o.guard = none) (s x : Operand) (t e : TypeId) (z : Value) (bytes : Nat)
    (ho : o.op = .call { callee := .builtin .append, args := #[s, x], argTypes := #[t, t] })
    (ht : P.underlying t = some (.slice e)) (hinfo : (P.info? e).map (fun i => (i.zero, i.size, i.bytes)) = some (some z, d.sz, bytes)) (hz : z.cells.size = d.sz) (hs0 : 0 < d.sz) (hb0 : 0 < bytes)
    (v : Value) (xs : List α) (p : α) (cs : List Value) (ok okp : Nat → Prop) (hs : a.eval s = v) (hx : a.eval x = .slice (some ⟨W.heap.size, 0, none⟩) 1 1) (hp : d.M W base okp p cs) (hokp : ∀ k, okp k → ok k ∧ some k ≠ v.ownBlock) (hfresh : ∀ k, W.heap.size ≤ k → ok k)
    (HO : d.Q e W base ok v xs) (HB : Below base w0 W) (hbase : base ≤ W.heap.size) (hl : (xs.length + 1) * bytes ≤ 140737488355328)
    (h : ∀ A c w1, d.Q e w1 base ok (.slice A (xs ++ [p]).length c) (xs ++ [p]) → Below base w0 w1 → W.grownBy w1 v.ownBlock → ((Value.slice A (xs ++ [p]).length c).ownBlock = v.ownBlock ∨ ∃ b, (Value.slice A (xs ++ [p]).length c).ownBlock = some b ∧ W.heap.size ≤ b) → wpList P ops Q' rest (a.put o.dst (.slice A (xs ++ [p]).length c)) w1) :
    wpList P ops Q' (o :: rest) a (W.alloc (.cells cs.toArray e)) :=
  Kd.Q_append d base hgd s x t e z bytes ho ht hinfo hz hs0 hb0 v xs p cs ok okp hs hx hp hokp hfresh HO HB hbase hl fun v1 w1 h1 h2 h3 h4 => by
    obtain ⟨A, c, rfl, _⟩ := Kd.Q_slice h1
    exact h A c w1 h1 h2 h3 h4
end

set_option maxHeartbeats 400000 in
theorem add_new (w : World) (B g m : Nat) (L : List Int) (t : Int) (ht0 : 0 ≤ t) (ht1 : t ≤ 1048576) (h : OnceAt w B g m L) (hL : ¬ t ∈ L) (hLl : L.length ≤ 1048576) (hBs : B ≤ w.heap.size) :
    Calls Try.prog 33 #[.pointer (some ⟨g, 0, none⟩), .int .i64 t] w fun e w' => e = .returned (.tuple #[]) ∧ OnceAt w' B g m (L ++ [t]) ∧ Below B w w' := by
  obtain ⟨⟨line, hblk, ⟨n, D, hown, hhas, hsize⟩, hq⟩, hg, hm⟩ := h
  have hd : has D (.int .i64 t) = false := by rw [hhas]; simpa using hL
  have hT := own_tight hown
  rw [hsize] at hT
  obtain ⟨es, c, hmb⟩ := isMapBlk hown
  have HN := Aside0.mk (map_ne_blk hmb hblk)
  have HQ := Aside0.mk (Q_mapne hq hmb)
  have HB := Aside0.mk hblk
  have HS := Aside0.mk hsize
  have HD := Aside0.mk hhas
  have HT := Aside0.mk (_root_.Go.World.ownsMap.tidy hown keyed3)
  have HM := Aside0.mk (show m < w.heap.size from _root_.Go.World.ownsMap.lt hown)
  have HNQ := Aside0.mk (Kd.Q_ne hq hblk (by decide))
  clear hown hsize hq hhas hmb
  have hc1 := (blk_cell hblk 1).trans rfl
  have hca := fun o => (blk_cell (blk_alloc hblk o) 1).trans rfl
  clear hblk
  go_enter Try.func33, Try.ntmps33
  go_wp2_with (first | (at_lookup; refine wpList_lookup_own_unit _ rfl _ _ 57 rfl 3 66 keyed3 Try.underlying57 (zeroU _) m _ D rfl hT _ _ rfl (keyOf_int_mk Try.underlying3 (wf_of (by omega) (by omega))) ?_) | (at_mapUpdate; refine wpList_mapUpdate_own _ rfl _ _ _ 57 rfl 3 66 keyed3 Try.underlying57 unitElem m L.length D rfl (hT.alloc _) (by unfold maxLen; omega) _ _ _ rfl rfl (keyOf_int_mk Try.underlying3 (wf_of (by omega) (by omega))) (.agg []) [] unitElem_mk ?_; intro w1 hown1 hgrow1; have HB1 := Aside0.mk (blk_grown (blk_alloc HB.out (.cells #[] 66)) hgrow1 HN.out); have HQ1 := Aside0.mk (Kd.Q_grown (Kd.Q_alloc HQ.out (.cells #[] 66)) hgrow1 (fun k hk he => hk (by injection he))); have HO1 := Aside0.mk hown1; have HG1 := Aside0.mk hgrow1; clear hown1 hgrow1; have hd0 := (blk_cell HB1.out 0).trans rfl; have HW1 := Aside0.mk (Below.grown ((Below.refl B w).alloc hBs (.cells #[] 66)) HG1.out (by simp; omega) (fun k hk => by injection hk with hk; omega)); clear hca hc1) | (at_builtin; refine Q_append_sl (w0 := w1) (Kd.int .i64) B rfl _ _ 29 3 (.int .i64 0) 8 rfl Try.underlying29 info3 rfl (by decide) (by decide) line L t [.int .i64 t] (fun k => k ≠ m) (fun _ => False) rfl rfl rfl (fun _ hk => hk.elim) ?h1 HQ1.out (Below.refl _ _) ?h2 (by omega) ?_; (case h1 => intro k hk; have := HW1.out.size; have := HM.out; omega); (case h2 => have := HW1.out.size; omega); intro A2 c2 w2 hq2 hb2 hg2 hat2; have HQ2 := Aside0.mk hq2; have HW2 := Aside0.mk hb2; have HG2 := Aside0.mk hg2; have HA2 := Aside0.mk hat2; clear hq2 hb2 hg2 hat2 hd0; have HB2 := Aside0.mk (blk_grown HB1.out HG2.out HNQ.out); have hd2 := (blk_cell HB2.out 0).trans rfl; have hf2 := blk_frozen HB2.out 0))
  go_end0
  have e2 : (L ++ [t]).length = L.length + 1 := by simp
  refine ⟨rfl, ⟨⟨.slice A2 (L.length + 1) c2, ?_, ⟨L.length + 1, D.put (.int .i64 t) (.agg []), ?_, ?_, ?_⟩, ?_⟩, hg, hm⟩, ?_⟩
  · exact blk_set HB2.out 0 _
  · refine _root_.Go.World.ownsMap.setCell ?_ (fun he => HN.out (by rw [he])) _
    refine _root_.Go.World.ownsMap.kept HO1.out HG2.out ?_
    exact fun he => (HQ1.out.1 m he.symm) rfl
  · intro x
    by_cases hx : x = t
    · subst hx
      rw [has_put_same (_root_.Go.Maps.Tidy.isMap HT.out) (by unfold WideAt.IsKeyLit; trivial)]
      simp
    · rw [has_put_other (by simpa using hx), HD.out]
      simp [hx]
  · rw [size_put HT.out, hd, HS.out, e2]
    simp
  · rw [← e2]
    refine Kd.Q_mono (Kd.Q_set HQ2.out HB2.out (by simp [Kd.int, Kd.scalar]) 0 _) (fun _ _ => trivial)
  · exact (HW1.out.trans HW2.out).setCell hg _

theorem next_nil (w : World) (B g m : Nat) (h : OnceAt w B g m []) :
    Calls Try.prog 34 #[.pointer (some ⟨g, 0, none⟩)] w fun e w' => e = .returned (.tuple #[.int .i64 0, .bool false]) ∧ w = w' := by
  obtain ⟨⟨line, hblk, hs, hq⟩, hg, hm⟩ := h
  obtain ⟨A, c, rfl, _⟩ := Kd.Q_slice hq
  have hc0 := (blk_cell hblk 0).trans rfl
  clear hblk hq hs
  go_enter Try.func34, Try.ntmps34
  go_wp2
  go_ret2
  exact ⟨rfl, rfl⟩

set_option maxHeartbeats 400000 in
theorem next_cons (w : World) (B g m : Nat) (t : Int) (L : List Int) (ht0 : 0 ≤ t) (ht1 : t ≤ 1048576) (h : OnceAt w B g m (t :: L)) (hnd : ¬ t ∈ L) (hLl : L.length ≤ 1048576) (hBs : B ≤ w.heap.size) :
    Calls Try.prog 34 #[.pointer (some ⟨g, 0, none⟩)] w fun e w' => e = .returned (.tuple #[.int .i64 t, .bool true]) ∧ OnceAt w' B g m L ∧ Below B w w' := by
  obtain ⟨⟨line, hblk, ⟨n, D, hown, hhas, hsize⟩, hq⟩, hg, hm⟩ := h
  obtain ⟨es, c, hmb⟩ := isMapBlk hown
  have HN := Aside0.mk (map_ne_blk hmb hblk)
  obtain ⟨A, cl, rfl, hle⟩ := Kd.Q_slice hq
  obtain ⟨_, _, hC⟩ := Kd.Q_reads' hq
  obtain ⟨ad, e, hcell⟩ := (Kd.reads_of_C (d := (0 : Int)) hC).at_ 0 (by omega) (by simp)
  cases e
  have hlen : (t :: L).length = L.length + 1 := rfl
  rw [hlen] at hle hblk hq
  have HQ := Aside0.mk (Kd.Q_drop hq (k := 1) (by simp))
  have HB := Aside0.mk hblk
  have HS := Aside0.mk hsize
  have HD := Aside0.mk hhas
  have HO := Aside0.mk hown
  have HT := Aside0.mk (_root_.Go.World.ownsMap.tidy hown keyed3)
  have hc1 := (blk_cell hblk 1).trans rfl
  have hc0 := (blk_cell hblk 0).trans rfl
  have hf0 := blk_frozen hblk 0
  have hcell2 : w.cell? ad = some (.int .i64 t) := by
    have h0 : ad.add (0 : Int).toNat = ad := by
      show ad.add 0 = ad
      unfold Addr.add
      rw [if_pos rfl]
    rw [h0] at hcell
    exact hcell
  have HM := Aside0.mk (show m < w.heap.size from _root_.Go.World.ownsMap.lt hown)
  have HG := Aside0.mk (blk_lt hblk)
  have hK : keyOf Try.prog 3 (.int .i64 t) = some (.int .i64 t) := keyOf_int_mk Try.underlying3 (wf_of (by omega) (by omega))
  have hmg : ∀ u : Value, (w.setCell ⟨g, 0, none⟩ u).ownsMap (H := Unit) Try.prog 3 unitElem m n D := fun u => _root_.Go.World.ownsMap.setCell hown (fun he => HN.out (by rw [he])) u
  have hc1s : ∀ u : Value, (w.setCell ⟨g, 0, none⟩ u).cell? ⟨g, 1, none⟩ = some (.map (some m)) := fun u => (blk_cell (blk_set hblk 0 u) 1).trans rfl
  clear hblk hq hcell hsize hhas hown hmb hC hc1
  have hfin : ∀ (w1 : World) (v' : Value), (Kd.int .i64).Q 3 w B (fun _ => True) v' L → w1.ownsMap (H := Unit) Try.prog 3 unitElem m n (D.del (.int .i64 t)) → (w.setCell ⟨g, 0, none⟩ v').mapTurned w1 m → OnceAt w1 B g m L ∧ Below B w w1 := by
    intro w1 v' hQ hm1 hturn
    have hB := blk_set HB.out 0 v'
    have hgr := _root_.Go.World.mapTurned.grown hturn
    have hQ1 := Kd.Q_set hQ HB.out (by simp [Kd.int, Kd.scalar]) 0 v'
    obtain ⟨es', c', hmb'⟩ := isMapBlk (hmg v')
    refine ⟨⟨⟨v', blk_grown hB hgr HN.out, ⟨n, D.del (.int .i64 t), hm1, ?_, ?_⟩, ?_⟩, hg, hm⟩, ?_⟩
    · intro x
      by_cases hx : x = t
      · subst hx
        rw [has_del_same]
        simp [hnd]
      · rw [has_del_other (by simpa using hx), HD.out]
        simp [hx]
    · have h1 := size_del (k := .int .i64 t) HT.out
      have h2 : has D (.int .i64 t) = true := by rw [HD.out]; simp
      rw [h2, HS.out] at h1
      simpa using h1
    · exact Kd.Q_mono (Kd.Q_grown (Q_mapne hQ1 hmb') hgr (fun k hk he => hk (by injection he))) (fun _ _ => trivial)
    · exact Below.grown ((Below.refl B w).setCell hg _) hgr (by simp [World.setCell]; omega) (fun k hk => by injection hk with hk; omega)
  have HF := Aside0.mk hfin
  clear hfin
  by_cases hcl : cl = 1
  · subst hcl
    obtain rfl : L = [] := by
      cases L with
      | nil => rfl
      | cons _ _ => simp at hle
    have HQ2 := HQ
    simp only [Nat.add_sub_cancel, if_true, List.drop_one, List.tail_cons] at HQ2
    clear HQ
    go_enter Try.func34, Try.ntmps34
    go_wp2_with (first | (at_delete; refine wpList_delete_own _ rfl _ _ 57 3 rfl 66 keyed3 Try.underlying57 unitElem m n D rfl (hmg _) _ _ rfl hK ?_; intro w1 hown1 hturn1; have HF1 := Aside0.mk (HF.out w1 _ (by simpa using HQ2.out) hown1 hturn1); clear hown1 hturn1))
    go_ret2
    exact ⟨rfl, HF1.out⟩
  · have HQ2 : Aside0 ((Kd.int .i64).Q 3 w B (fun _ => True) (.slice (some ⟨ad.block, ad.off + 1, none⟩) L.length (cl - 1)) L) := by
      have h := HQ.out
      simp only [Nat.add_sub_cancel, hcl, if_false, List.drop_one, List.tail_cons, Option.map_some] at h
      have e1 : ad.add (1 * (Kd.int .i64).sz) = ⟨ad.block, ad.off + 1, none⟩ := by
        show ad.add 1 = _
        unfold Addr.add
        rw [if_neg (by decide)]
      rw [e1] at h
      exact ⟨h⟩
    clear HQ
    go_enter Try.func34, Try.ntmps34
    go_wp2_with (first | (at_delete; refine wpList_delete_own _ rfl _ _ 57 3 rfl 66 keyed3 Try.underlying57 unitElem m n D rfl (hmg _) _ _ rfl hK ?_; intro w1 hown1 hturn1; have HF1 := Aside0.mk (HF.out w1 _ HQ2.out hown1 hturn1); clear hown1 hturn1))
    go_ret2
    exact ⟨rfl, HF1.out⟩
end Go.Proofs.Ytmjdiiockddalaa.PW
