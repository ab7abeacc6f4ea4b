/- The walk of Meet of package sums. No conditions. -/
import Derived.Test.YtgemcomcjojjbaaHMeetS
namespace Go.Proofs.Ytgemcomcjojjbaa.PS
open Go.RowKit Go.Proofs.YtgemcomcjojjbaaW.PrintWords Go.Proofs.YtgemcomcjojjbaaW.PrintLast Go.Proofs.YtgemcomcjojjbaaW.PrintMore
set_option linter.unusedVariables false
set_option linter.unusedSimpArgs false

def TAB_13.T5 : Bool × List (List Nat × List Nat) := (true, [([], []), ([], []), ([1], [1]), ([2], [2]), ([0, 3], [0, 3]), ([4], [4]), ([], []), ([], []), ([7], [7]), ([8], [8]), ([6, 9], [6, 9]), ([0, 1, 2, 3, 4, 5], []), ([11, 5, 5, 0, 1, 2, 3, 4, 5], [5, 11]), ([10, 12, 0, 1, 2, 3, 4, 5, 6, 7, 8, 9, 10, 11, 12], [10])])
def TAB_13.B5 : List Nat := [0, 0, 2, 6, 15, 31, 0, 0, 128, 384, 960, 63, 2111, 8191]
theorem TAB_13.tab5 : rtab .any (opsOf Try.f13 5) = TAB_13.T5 := by kernel_rfl
theorem TAB_13.bits5 : waitsOk TAB_13.T5.2 TAB_13.B5 = true := by kernel_rfl
def TAB_13.T9 : Bool × List (List Nat × List Nat) := (true, [([], []), ([0], [0]), ([], []), ([], []), ([3], [3]), ([2, 4], [2, 4]), ([5], [5]), ([6], [6]), ([1, 7, 6], [1, 7]), ([], []), ([], []), ([10], [10]), ([9, 11], [9, 11]), ([0, 1, 2, 3, 4, 5, 6, 7, 8], []), ([13, 8, 8, 0, 1, 2, 3, 4, 5, 6, 7, 8], [8, 13]), ([12, 14, 0, 1, 2, 3, 4, 5, 6, 7, 8, 9, 10, 11, 12, 13, 14], [12])])
def TAB_13.B9 : List Nat := [0, 1, 0, 0, 8, 28, 60, 124, 255, 0, 0, 1024, 3584, 511, 8703, 32767]
theorem TAB_13.tab9 : rtab .any (opsOf Try.f13 9) = TAB_13.T9 := by kernel_rfl
theorem TAB_13.bits9 : waitsOk TAB_13.T9.2 TAB_13.B9 = true := by kernel_rfl
def meetS (a b : S31) : S31 := ⟨List.zipWith min a.f0 b.f0, List.zipWith (List.zipWith min) a.f1 b.f1⟩
theorem map_zip (r s : List Int) : (r.zip s).map minP = List.zipWith min r s := by
  induction r generalizing s with
  | nil => simp
  | cons x r ih => cases s with
    | nil => simp
    | cons y s => simp [ih, minP]
theorem mins_eq (a b : S31) : (pairsS a b).map minP = (meetS a b).f0 ++ (meetS a b).f1.flatten := by
  obtain ⟨x, y⟩ := a
  obtain ⟨x', y'⟩ := b
  have h : ∀ y y' : List (List Int), ((y.zip y').flatMap fun p => p.1.zip p.2).map minP = (List.zipWith (List.zipWith min) y y').flatten := by
    intro y
    induction y with
    | nil => intro y'; simp
    | cons r y ih =>
      intro y'
      cases y' with
      | nil => simp
      | cons s y' =>
        rw [List.zip_cons_cons, List.flatMap_cons, List.map_append, map_zip, ih, List.zipWith_cons_cons, List.flatten_cons]
  show (((x :: y).zip (x' :: y')).flatMap fun p => p.1.zip p.2).map minP = _
  rw [List.zip_cons_cons, List.flatMap_cons, List.map_append, map_zip, h]
  rfl
theorem both_lens {a b : S31} (h : bothS a b = true) : (meetS a b).f0.length = a.f0.length ∧ (meetS a b).f1.length = a.f1.length ∧ ∀ (q : Nat) (h1 : q < (meetS a b).f1.length) (h2 : q < a.f1.length), (meetS a b).f1[q].length = a.f1[q].length := by
  obtain ⟨x, y⟩ := a
  obtain ⟨x', y'⟩ := b
  unfold bothS rowsOf at h
  rw [Bool.and_eq_true, decide_eq_true_eq] at h
  obtain ⟨hl, ha⟩ := h
  have hl : y.length = y'.length := hl
  have ha : ((x :: y).zip (x' :: y')).all okPair = true := ha
  have h0 := zip_len (x :: y) (x' :: y') 0 (by simp) (by simp) ha
  simp only [List.getElem_cons_zero] at h0
  refine ⟨?_, ?_, ?_⟩
  · show (List.zipWith min x x').length = x.length
    rw [List.length_zipWith]; omega
  · show (List.zipWith (List.zipWith min) y y').length = y.length
    rw [List.length_zipWith]; omega
  · intro q h1 h2
    have h2' : q < y.length := h2
    have hq := zip_len (x :: y) (x' :: y') (q + 1) (by simp; omega) (by simp; omega) ha
    simp only [List.getElem_cons_succ] at hq
    have h1' : q < (List.zipWith (List.zipWith min) y y').length := h1
    show ((List.zipWith (List.zipWith min) y y')[q]'h1').length = y[q].length
    rw [List.getElem_zipWith, List.length_zipWith]; omega
theorem drop_flat (M : List (List Int)) (q : Nat) : (M.drop q).flatten.length ≤ M.flatten.length := by
  have h : M.flatten = (M.take q).flatten ++ (M.drop q).flatten := by rw [← List.flatten_append, List.take_append_drop]
  rw [h, List.length_append]
  exact Nat.le_add_left _ _
/-- What holds ahead of each round of Meet's loop. -/
def LoopM (W wb : World) (b6 g2 g4 g6 g7 : Nat) (cs2 : Array Value) (X : List Int) (M : List (List Int)) (q : Nat) (w' : World) : Prop :=
  ∃ (F : List Int) (A : Option Addr) (c : Nat) (v0 vr : Value), F = (M.drop q).flatten ∧ w'.heap[g6]? = some (.cells #[.slice A F.length c] 22 (0, 0)) ∧ kI.Q 3 w' b6 (fun k => k < wb.heap.size) (.slice A F.length c) F ∧
    w'.heap[g7]? = some (.cells #[v0, vr] 31 (0, 0)) ∧ kI.R 3 w' wb.heap.size (fun k => wb.heap.size ≤ k) v0 X ∧ kL.R 22 w' wb.heap.size (fun k => wb.heap.size ≤ k) vr (M.take q) ∧
    w'.heap[g2]? = some (.cells cs2 31 (0, 0)) ∧ w'.heap[g4]? = some (.cells #[.slice none 0 0, .slice none 0 0] 31 (0, 0)) ∧ Below W.heap.size W w' ∧ wb.heap.size ≤ w'.heap.size
/-- A slice cut in two: what stands ahead, what stands behind. -/
theorem cut_both {w : World} {base : Nat} {ok : Nat → Prop} {A : Option Addr} {c : Nat} {xs : List Int} (h : kI.Q 3 w base ok (.slice A xs.length c) xs) (k : Nat) (hk : k ≤ xs.length) :
    (∀ W : World, (Instr.slice 22 (.slice A xs.length c) none (some (.int .i64 (k : Int))) none).run Try.prog W = .ok (.slice A k c) W) ∧ k ≤ c ∧ kI.C w A k (xs.take k) ∧
    ∃ A' c', (∀ W : World, (Instr.slice 22 (.slice A xs.length c) (some (.int .i64 (k : Int))) none none).run Try.prog W = .ok (.slice A' (xs.drop k).length c') W) ∧ kI.Q 3 w base ok (.slice A' (xs.drop k).length c') (xs.drop k) := by
  obtain ⟨i0, hi, hz0, hz1, hz2⟩ := info_parts info3
  have hc := (Kd.Q_reads' h).2.1
  refine ⟨?_, Nat.le_trans hk hc, ?_, if c = k then A else A.map (·.add (k * 1)), c - k, ?_, ?_⟩
  · have := cut_to (P := Try.prog) 22 3 .i64 Try.underlying22 hi A xs.length c (k : Int) (by omega) (by omega) hc
    simpa only [Int.toNat_natCast] using this
  · have := (Kd.Q_reads' (Kd.Q_take h hk)).2.2
    rwa [List.length_take, Nat.min_eq_left hk] at this
  · have := cut_from (P := Try.prog) 22 3 .i64 Try.underlying22 hi 1 hz1 A xs.length c (k : Int) (by omega) (by omega)
    rw [List.length_drop]
    simpa only [Int.toNat_natCast] using this
  · have := Kd.Q_drop h hk
    rw [List.length_drop]
    exact this
set_option maxHeartbeats 8000000 in
set_option maxRecDepth 100000 in
theorem meet_any (a b : S31) (A0 : Option Addr) (c0 : Nat) (A1 : Option Addr) (c1 : Nat) (B0 : Option Addr) (d0 : Nat) (B1 : Option Addr) (d1 : Nat) (W : World)
    (h0 : kI.C W A0 a.f0.length a.f0) (l0 : a.f0.length ≤ c0) (h1 : kL.C W A1 a.f1.length a.f1) (l1 : a.f1.length ≤ c1)
    (h2 : kI.C W B0 b.f0.length b.f0) (l2 : b.f0.length ≤ d0) (h3 : kL.C W B1 b.f1.length b.f1) (l3 : b.f1.length ≤ d1)
    (ha : (1 + a.f1.length) * 24 ≤ 140737488355328) (hb : (1 + b.f1.length) * 24 ≤ 140737488355328) (hT : (pairsS a b).length * 8 ≤ 140737488355328) :
    Calls Try.prog 13 #[.agg #[.slice A0 a.f0.length c0, .slice A1 a.f1.length c1], .agg #[.slice B0 b.f0.length d0, .slice B1 b.f1.length d1]] W fun e w' => (bothS a b = false → e = .returned (.tuple #[.agg #[.slice none 0 0, .slice none 0 0], .int .i64 90])) ∧ (bothS a b = true → ∃ A c A' c', e = .returned (.tuple #[.agg #[.slice A (meetS a b).f0.length c, .slice A' (meetS a b).f1.length c'], .int .i64 0]) ∧ kI.R 3 w' W.heap.size (fun k => W.heap.size ≤ k) (.slice A (meetS a b).f0.length c) (meetS a b).f0 ∧ kL.R 22 w' W.heap.size (fun k => W.heap.size ≤ k) (.slice A' (meetS a b).f1.length c') (meetS a b).f1) ∧ Below W.heap.size W w' := by
  have HBoth : Aside0 (∀ (g : Nat) (w : World), Below W.heap.size W w → W.heap.size ≤ g → w.heap[g]? = some (.cells #[.slice none 0 0] 22 (0, 0)) → Calls Try.prog 22 #[.agg #[.slice A0 a.f0.length c0, .slice A1 a.f1.length c1], .agg #[.slice B0 b.f0.length d0, .slice B1 b.f1.length d1], .func (Fn.func 28) #[] #[.pointer (some ⟨g, 0, none⟩)]] w fun e w' => e = .returned (.bool (bothS a b)) ∧ Below W.heap.size W w' ∧ KeepBut w w' g none ∧ (bothS a b = true → ∃ v, w'.heap[g]? = some (.cells #[v] 22 (0, 0)) ∧ kI.R 3 w' w.heap.size (fun _ => True) v ((meetS a b).f0 ++ (meetS a b).f1.flatten))) := ⟨by
    intro g w hB hg hc
    refine (both_any 28 (.inr rfl) g a b A0 c0 A1 c1 B0 d0 B1 d1 W w hB hg (blk_lt hc) h0 l0 h1 l1 h2 l2 h3 l3 ha hb (InvM W g) ?_ ?_ ?_).mono ?_
    · exact fun w3 h3 => ⟨⟨_, (h3.block g (blk_lt hc)).trans hc, Kd.R_nil _ _ _ _ _⟩, KeepBut.refl _ _ _, hB.trans (h3.mono hB.size)⟩
    · exact fun w3 don w' h => h.2
    · intro w3 don x y w' h3 hI hl
      exact invM_next hg (Nat.le_trans hB.size h3.size) (Nat.lt_of_lt_of_le (blk_lt hc) h3.size) hI (by omega)
    · rintro e w' ⟨rfl, hB', hk, h⟩
      refine ⟨rfl, hB', hk, fun ht => ?_⟩
      obtain ⟨w3, h3, ⟨v, hv, hR⟩, _⟩ := h ht
      rw [mins_eq] at hR
      exact ⟨v, hv, Kd.R_lower hR h3.size⟩⟩
  have HLe := Aside0.mk (fun h => both_lens (a := a) (b := b) h)
  have HMx : Aside0 (((meetS a b).f0 ++ (meetS a b).f1.flatten).length * 8 ≤ 140737488355328) := ⟨by rw [← mins_eq, List.length_map]; exact hT⟩
  have HR1 := Aside0.mk h1
  have Ha := Aside0.mk ha
  have hma : a.f0.length ≤ 9223372036854775807 := Kd.C_max h0
  have hmY : a.f1.length ≤ 9223372036854775807 := Kd.C_max h1
  have HB0 := Aside0.mk (Below.refl W.heap.size W)
  obtain ⟨la, hla⟩ : ∃ la, la = a.f0.length := ⟨_, rfl⟩
  obtain ⟨lb, hlb⟩ : ∃ lb, lb = b.f0.length := ⟨_, rfl⟩
  obtain ⟨mb, hmb⟩ : ∃ mb, mb = b.f1.length := ⟨_, rfl⟩
  obtain ⟨Y, hY⟩ : ∃ Y, Y = a.f1 := ⟨_, rfl⟩
  obtain ⟨X, hX⟩ : ∃ X, X = (meetS a b).f0 := ⟨_, rfl⟩
  obtain ⟨M, hM⟩ : ∃ M, M = (meetS a b).f1 := ⟨_, rfl⟩
  rw [← hla, ← hlb, ← hmb, ← hY, ← hX, ← hM] at HBoth ⊢
  rw [← hX, ← hM, ← hla, ← hY] at HLe
  rw [← hX, ← hM] at HMx
  rw [← hY] at HR1 Ha hmY
  rw [← hla] at hma
  clear h0 h1 h2 h3 l0 l1 l2 l3 ha hb hT
  clear hla hlb hX hM hmb hY
  go_enter Try.func13, Try.ntmps13
  go_wp2_with (first | ((with_reducible refine gate_dst (N := 2) rfl ?_); refine box_event ?hg (N := 2) ?hd (cs := #[.slice A0 la c0, .slice A1 Y.length c1]) (t := 31) ?hr ?_; (case hd => rfl); (case hg => rfl); (case hr => first | (go_simp; done) | (go_simp; rfl)); intro g2 hg w1 hbox hb; have BK2 := Aside0.mk hbox; have HB := Aside0.mk hb; clear HB0 hg hbox hb) | ((with_reducible refine gate_dst (N := 3) rfl ?_); refine box_event ?hg (N := 3) ?hd (cs := #[.slice B0 lb d0, .slice B1 mb d1]) (t := 31) ?hr ?_; (case hd => rfl); (case hg => rfl); (case hr => first | (go_simp; done) | (go_simp; rfl)); intro g3 hg w2 hbox hb; have BK2_ := Aside0.mk (blk_below BK2.out hb); have BK3 := Aside0.mk hbox; have HB_ := Aside0.mk (HB.out.trans (hb.mono HB.out.size)); clear HB BK2 hg hbox hb; have BK2 := BK2_; have HB := HB_; clear BK2_ HB_) | ((with_reducible refine gate_dst (N := 4) rfl ?_); refine box_event ?hg (N := 4) ?hd (cs := #[.slice none 0 0, .slice none 0 0]) (t := 31) ?hr ?_; (case hd => rfl); (case hg => rfl); (case hr => first | (go_simp; done) | (go_simp; rfl)); intro g4 hg w4 hbox hb; have BK2_ := Aside0.mk (blk_below BK2.out hb); have BK3_ := Aside0.mk (blk_below BK3.out hb); have BK4 := Aside0.mk hbox; have HG4 : Aside0 (W.heap.size ≤ g4) := ⟨by have := HB.out.size; omega⟩; have HB_ := Aside0.mk (HB.out.trans (hb.mono HB.out.size)); clear HB BK2 BK3 hg hbox hb; have BK2 := BK2_; have BK3 := BK3_; have HB := HB_; clear BK2_ BK3_ HB_) | ((with_reducible refine gate_dst (N := 6) rfl ?_); refine box_event ?hg (N := 6) ?hd (cs := #[.slice none 0 0]) (t := 22) ?hr ?_; (case hd => rfl); (case hg => rfl); (case hr => first | (go_simp; done) | (go_simp; rfl)); intro g6 hg w6 hbox hb; have Hg6 : Aside0 (W.heap.size ≤ g6) := ⟨by have := HB.out.size; omega⟩; have BK2_ := Aside0.mk (blk_below BK2.out hb); have BK3_ := Aside0.mk (blk_below BK3.out hb); have BK4_ := Aside0.mk (blk_below BK4.out hb); have BK6 := Aside0.mk hbox; have HB_ := Aside0.mk (HB.out.trans (hb.mono HB.out.size)); clear HB BK2 BK3 BK4 hg hbox hb; have BK2 := BK2_; have BK3 := BK3_; have BK4 := BK4_; have HB := HB_; clear BK2_ BK3_ BK4_ HB_; have hz0 : w6.cell? ⟨g2, 0, none⟩ = some (.slice A0 la c0) := (blk_cell BK2.out 0).trans rfl; have hz1 : w6.cell? ⟨g2, 1, none⟩ = some (.slice A1 Y.length c1) := (blk_cell BK2.out 1).trans rfl; have hy0 : w6.cell? ⟨g3, 0, none⟩ = some (.slice B0 lb d0) := (blk_cell BK3.out 0).trans rfl; have hy1 : w6.cell? ⟨g3, 1, none⟩ = some (.slice B1 mb d1) := (blk_cell BK3.out 1).trans rfl))
  refine (HBoth.out g6 _ HB.out Hg6.out BK6.out).mono ?_
  rintro e w5 ⟨rfl, hB, hk, hA⟩
  have HB2 := Aside0.mk hB
  have Hg4 : Aside0 (W.heap.size ≤ g4) := ⟨HG4.out⟩
  have N6 : Aside0 (g4 ≠ g6) := ⟨blk_ne BK4.out BK6.out (by decide)⟩
  have N2 : Aside0 (g2 ≠ g6) := ⟨blk_ne BK2.out BK6.out (by decide)⟩
  have BK2_ := Aside0.mk (hk.blk BK2.out N2.out (by simp))
  have BK4_ := Aside0.mk (hk.blk BK4.out N6.out (by simp))
  have H6 := Aside0.mk hk.1
  clear hB hk hz0 hz1 hy0 hy1 HBoth BK2 BK3 BK4
  have BK2 := BK2_
  have BK4 := BK4_
  clear BK2_ BK4_
  cases hS : bothS a b with
  | false =>
    clear hA HLe
    have hf0 := blk_frozen BK4.out 0
    have hf1 := blk_frozen BK4.out 1
    have hc0 : w5.cell? ⟨g4, 0, none⟩ = some (.slice none 0 0) := (blk_cell BK4.out 0).trans rfl
    have hc1 : w5.cell? ⟨g4, 1, none⟩ = some (.slice none 0 0) := (blk_cell BK4.out 1).trans rfl
    go_wp2_with fail
    refine bodyPost_ret (results_ct rfl _ _ g4 31 #[.slice none 0 0, .slice none 0 0] (0, 0) _ rfl ((blk_set (blk_set BK4.out 0 _) 1 _).trans rfl) Try.underlying31 rfl (by kernel_rfl)) rfl ?_
    exact ⟨fun _ => rfl, fun h => (by rw [hS] at h; cases h), below_set (below_set HB2.out Hg4.out) Hg4.out⟩
  | true =>
    obtain ⟨v, hv, hR⟩ := hA hS
    have HL := Aside0.mk (HLe.out hS)
    clear hA HLe
    obtain rfl := HL.out.1
    have BK6' := Aside0.mk hv
    have HR6 := Aside0.mk hR
    clear hv hR BK6 HB
    go_wp2_with ((with_reducible refine gate_dst (N := 7) rfl ?_); refine box_event ?hg (N := 7) ?hd (cs := #[.slice none 0 0, .slice none 0 0]) (t := 31) ?hr ?_; (case hd => rfl); (case hg => rfl); (case hr => first | (go_simp; done) | (go_simp; rfl)); intro g7 hg w7 hbox hb; have N27 : Aside0 (g2 ≠ g7) := ⟨fun e => by have := blk_lt BK2.out; omega⟩; have N47 : Aside0 (g4 ≠ g7) := ⟨fun e => by have := blk_lt BK4.out; omega⟩; have Hg7 : Aside0 (W.heap.size ≤ g7) := ⟨by have := HB2.out.size; omega⟩; have BK2_ := Aside0.mk (blk_below BK2.out hb); have BK4_ := Aside0.mk (blk_below BK4.out hb); have BK6_ := Aside0.mk (blk_below BK6'.out hb); have BK7 := Aside0.mk hbox; have HR6_ := Aside0.mk (Kd.R_below HR6.out hb); have HB := Aside0.mk (HB2.out.trans (hb.mono HB2.out.size)); clear HB2 BK2 BK4 BK6' HR6 hg hbox hb; have BK2 := BK2_; have BK4 := BK4_; have BK6 := BK6_; have HR6 := HR6_; clear BK2_ BK4_ BK6_ HR6_)
    have HQ := Aside0.mk (Kd.Q_mono (Kd.Q_of_R (Kd.R_mono (Kd.R_bound HR6.out) (ok' := fun k => k < w7.heap.size) (fun k h => h.2.2.1))) (fun _ h => h))
    clear HR6
    obtain ⟨Av, cv, rfl, hlv⟩ := Kd.Q_slice HQ.out
    obtain ⟨hs20, hle, hCx, A', c', hs26, hQ'⟩ := cut_both HQ.out X.length (by rw [List.length_append]; omega)
    rw [List.take_left' rfl] at hCx
    rw [List.drop_left' rfl] at hs26 hQ'
    have HCx : Aside0 (kI.C w7.drew Av X.length X) := ⟨Kd.C_drew hCx⟩
    have HQ' := Aside0.mk hQ'
    have HXl : Aside0 (X.length * 8 ≤ 140737488355328) := ⟨by have := HMx.out; rw [List.length_append] at this; omega⟩
    have HLx := Aside0.mk hle
    have hlm : X.length ≤ (X ++ M.flatten).length := by rw [List.length_append]; omega
    have hnm : (X ++ M.flatten).length ≤ 9223372036854775807 := by have := HMx.out; omega
    obtain ⟨nn, hnn⟩ : ∃ nn, nn = (X ++ M.flatten).length := ⟨_, rfl⟩
    rw [← hnn] at BK6 hs20 hs26 hlm hnm hlv
    have N67 : Aside0 (g6 ≠ g7) := ⟨blk_ne BK6.out BK7.out (by decide)⟩
    have hz6 : w7.cell? ⟨g6, 0, none⟩ = some (.slice Av nn cv) := (blk_cell BK6.out 0).trans rfl
    have hz2 : w7.cell? ⟨g2, 0, none⟩ = some (.slice A0 X.length c0) := (blk_cell BK2.out 0).trans rfl
    obtain ⟨F, hF⟩ : ∃ F, F = M.flatten := ⟨_, rfl⟩
    rw [← hF] at hs26 HQ'
    have HF : Aside0 (F = (M.drop 0).flatten) := ⟨hF⟩
    clear hCx hQ' hle HQ hnn hF
    refine start_ (n := 14) (S := fun w' => w'.cell? ⟨g6, 0, none⟩ = some (.slice Av nn cv) ∧ w'.cell? ⟨g2, 0, none⟩ = some (.slice A0 X.length c0)) (ds := [13]) #[false, false, false, false, false, false, false, false, false, false, false, false, false, false] (by kernel_rfl) rfl rfl ⟨hz6, hz2⟩ (fun hHeld => ?_)
    refine with_tabW TAB_13.tab5 TAB_13.bits5 (fun HT_ HW_ => ?_)
    refine pure_ (i := 1) (N := some 17) (v := ?_) (a' := ?_) #[false, true, false, false, false, false, false, false, false, false, false, false, false, false] rfl rfl (any_of HT_.out (by kernel_rfl)) (fun _ _ _ h => h) (Or.inl ⟨by rfl, ?_⟩) ?_ ?_
    rotate_left
    · intro w'
      go_simp
      with_reducible rfl
    rotate_left
    · simp only [Act.put, List.setIfInBounds_toArray, List.set_cons_zero, List.set_cons_succ, i64_w, i32_w]
      rfl
    refine pure_ (i := 7) (N := some 23) (v := ?_) (a' := ?_) #[false, true, false, false, false, false, false, true, false, false, false, false, false, false] rfl rfl (any_of HT_.out (by kernel_rfl)) (fun _ _ _ h => h) (Or.inl ⟨by rfl, ?_⟩) ?_ ?_
    rotate_left
    · intro w'
      go_simp
      with_reducible rfl
    rotate_left
    · simp only [Act.put, List.setIfInBounds_toArray, List.set_cons_zero, List.set_cons_succ, i64_w, i32_w]
      rfl
    refine take_ (i := 0) (N := some 16) (v := ?_) (a' := ?_) #[true, true, false, false, false, false, false, true, false, false, false, false, false, false] rfl rfl (take_ofW HT_.out HW_.out (by kernel_rfl)) (fun _ _ _ h => h) (Or.inl ⟨by rfl, ?_⟩) hHeld ?_ ?_
    rotate_left
    · rintro w' ⟨s0, s1⟩
      go_simp
      with_reducible rfl
    rotate_left
    · simp only [Act.put, List.setIfInBounds_toArray, List.set_cons_zero, List.set_cons_succ, i64_w, i32_w]
      rfl
    refine take_ (i := 2) (N := some 18) (v := ?_) (a' := ?_) #[true, true, true, false, false, false, false, true, false, false, false, false, false, false] rfl rfl (take_ofW HT_.out HW_.out (by kernel_rfl)) (fun _ _ _ h => h) (Or.inl ⟨by rfl, ?_⟩) hHeld ?_ ?_
    rotate_left
    · rintro w' ⟨s0, s1⟩
      go_simp
      with_reducible rfl
    rotate_left
    · simp only [Act.put, List.setIfInBounds_toArray, List.set_cons_zero, List.set_cons_succ, i64_w, i32_w]
      rfl
    refine pure_ (i := 3) (N := some 19) (v := ?_) (a' := ?_) #[true, true, true, true, false, false, false, true, false, false, false, false, false, false] rfl rfl (any_of HT_.out (by kernel_rfl)) (fun _ _ _ h => h) (Or.inl ⟨by rfl, ?_⟩) ?_ ?_
    rotate_left
    · intro w'
      go_simp
      with_reducible rfl
    rotate_left
    · simp only [Act.put, List.setIfInBounds_toArray, List.set_cons_zero, List.set_cons_succ, i64_w, i32_w]
      rfl
    refine pure_ (i := 4) (N := some 20) (v := ?_) (a' := ?_) #[true, true, true, true, true, false, false, true, false, false, false, false, false, false] rfl rfl (any_of HT_.out (by kernel_rfl)) (fun _ _ _ h => h) (Or.inl ⟨by rfl, ?_⟩) ?_ ?_
    rotate_left
    · intro w'
      go_simp
      with_reducible rfl
    rotate_left
    · simp only [Act.put, List.setIfInBounds_toArray, List.set_cons_zero, List.set_cons_succ, i64_w, i32_w]
      rfl
    refine take_ (i := 6) (N := some 22) (v := ?_) (a' := ?_) #[true, true, true, true, true, false, true, true, false, false, false, false, false, false] rfl rfl (take_ofW HT_.out HW_.out (by kernel_rfl)) (fun _ _ _ h => h) (Or.inl ⟨by rfl, ?_⟩) hHeld ?_ ?_
    rotate_left
    · rintro w' ⟨s0, s1⟩
      go_simp
      with_reducible rfl
    rotate_left
    · simp only [Act.put, List.setIfInBounds_toArray, List.set_cons_zero, List.set_cons_succ, i64_w, i32_w]
      rfl
    refine take_ (i := 8) (N := some 24) (v := ?_) (a' := ?_) #[true, true, true, true, true, false, true, true, true, false, false, false, false, false] rfl rfl (take_ofW HT_.out HW_.out (by kernel_rfl)) (fun _ _ _ h => h) (Or.inl ⟨by rfl, ?_⟩) hHeld ?_ ?_
    rotate_left
    · rintro w' ⟨s0, s1⟩
      go_simp
      with_reducible rfl
    rotate_left
    · simp only [Act.put, List.setIfInBounds_toArray, List.set_cons_zero, List.set_cons_succ, i64_w, i32_w]
      rfl
    refine pure_ (i := 9) (N := some 25) (v := ?_) (a' := ?_) #[true, true, true, true, true, false, true, true, true, true, false, false, false, false] rfl rfl (any_of HT_.out (by kernel_rfl)) (fun _ _ _ h => h) (Or.inl ⟨by rfl, ?_⟩) ?_ ?_
    rotate_left
    · intro w'
      go_simp
      with_reducible rfl
    rotate_left
    · simp only [Act.put, List.setIfInBounds_toArray, List.set_cons_zero, List.set_cons_succ, i64_w, i32_w]
      rfl
    refine pure_ (i := 10) (N := some 26) (v := ?_) (a' := ?_) #[true, true, true, true, true, false, true, true, true, true, true, false, false, false] rfl rfl (any_of HT_.out (by kernel_rfl)) (fun _ _ _ h => h) (Or.inl ⟨by rfl, ?_⟩) ?_ ?_
    rotate_left
    · intro w'
      go_simp
      with_reducible rfl
    rotate_left
    · simp only [Act.put, List.setIfInBounds_toArray, List.set_cons_zero, List.set_cons_succ, i64_w, i32_w]
      rfl
    refine one_ (i := 5) (N := some 21) #[true, true, true, true, true, true, true, true, true, true, true, false, false, false] rfl rfl (one_of HT_.out (by kernel_rfl)) (by decide) (fun K hK => ?_)
    refine goes_ Try.func29 (by kernel_rfl) rfl #[.slice Av X.length cv] (by rfl) rfl rfl (by simp only [List.map_toArray, List.map_cons, List.map_nil]; rfl) ?_
    with_reducible refine (clone_any X Av cv _ HCx.out HLx.out HXl.out).mono ?_
    rintro e_ w8 ⟨v21, rfl, hRv, hBv⟩
    refine ⟨_, rfl, ?_⟩
    obtain ⟨A21, c21, rfl⟩ := Kd.R_slice hRv
    have HRv : Aside0 (kI.R 3 w8 w7.heap.size (fun k => w7.heap.size ≤ k) (.slice A21 X.length c21) X) := ⟨hRv⟩
    have HBv : Aside0 (Below w7.heap.size w7 w8) := ⟨(below_drew (Below.refl w7.heap.size w7)).trans hBv⟩
    have BK2w := Aside0.mk (blk_below BK2.out HBv.out)
    have BK4w := Aside0.mk (blk_below BK4.out HBv.out)
    have BK6w := Aside0.mk (blk_below BK6.out HBv.out)
    have BK7w := Aside0.mk (blk_below BK7.out HBv.out)
    clear hRv hBv
    refine hK.out _ _ ⟨pw_cell_below HBv.out hz6, pw_cell_below HBv.out hz2⟩ (fun hHeld => ?_)
    clear hK K
    refine norm_ (a' := ?_) ?_ ?_
    rotate_left
    · show Act.put _ (some 21) _ = _
      simp only [Act.put, List.setIfInBounds_toArray, List.set_cons_zero, List.set_cons_succ, i64_w, i32_w]
      rfl
    refine pure_ (i := 11) (N := some 27) (v := ?_) (a' := ?_) #[true, true, true, true, true, true, true, true, true, true, true, true, false, false] rfl rfl (any_of HT_.out (by kernel_rfl)) (fun _ _ _ h => h) (Or.inl ⟨by rfl, ?_⟩) ?_ ?_
    rotate_left
    · intro w'
      go_simp
      with_reducible rfl
    rotate_left
    · simp only [Act.put, List.setIfInBounds_toArray, List.set_cons_zero, List.set_cons_succ, i64_w, i32_w]
      rfl
    refine one_ (i := 12) (N := none) #[true, true, true, true, true, true, true, true, true, true, true, true, true, false] rfl rfl (one_of HT_.out (by kernel_rfl)) (by decide) (fun K hK => ?_)
    have hfz := blk_frozen BK7w.out 0
    have hcz : w8.cell? ⟨g7, 0, none⟩ = some (.slice none 0 0) := (blk_cell BK7w.out 0).trans rfl
    refine skip_ (w1 := ?_) (by rfl) rfl ?_ ?_
    rotate_left
    · go_simp
      rfl
    clear hfz hcz
    refine hK.out _ _ ⟨(blk_cell (blk_far BK6w.out N67.out _) 0).trans rfl, (blk_cell (blk_far BK2w.out N27.out _) 0).trans rfl⟩ (fun hHeld => ?_)
    clear hK K
    refine last_ (i := 13) (N := none) #[true, true, true, true, true, true, true, true, true, true, true, true, true, true] rfl rfl (one_of HT_.out (by kernel_rfl)) (by decide) (fun K hK => ?_)
    have hfz := blk_frozen (blk_far BK6w.out (p := ⟨g7, 0, none⟩) N67.out (.slice A21 X.length c21)) 0
    have hcz : (w8.setCell ⟨g7, 0, none⟩ (.slice A21 X.length c21)).cell? ⟨g6, 0, none⟩ = some (.slice Av nn cv) := (blk_cell (blk_far BK6w.out N67.out _) 0).trans rfl
    refine skip_ (w1 := ?_) (by rfl) rfl ?_ ?_
    rotate_left
    · go_simp
      rfl
    clear hfz hcz
    refine hK.out _ _ ?_
    clear hK K
    refine done_ (done_of HT_.out (by kernel_rfl)) ?_

    clear HT_ HW_ hHeld
    have HLp : Aside0 (LoopM W w7 w6.heap.size g2 g4 g6 g7 #[.slice A0 X.length c0, .slice A1 Y.length c1] X M 0 ((w8.setCell ⟨g7, 0, none⟩ (.slice A21 X.length c21)).setCell ⟨g6, 0, none⟩ (.slice A' F.length c'))) := ⟨F, A', c', .slice A21 X.length c21, .slice none 0 0, HF.out, (blk_set (blk_far BK6w.out N67.out _) 0 _).trans rfl,
      Kd.Q_set (Kd.Q_set (Kd.Q_below HQ'.out HBv.out) BK7w.out (by decide) 0 _) (blk_far BK6w.out N67.out _) (by decide) 0 _,
      (blk_far (blk_set BK7w.out 0 _) N67.out.symm _).trans rfl,
      Kd.R_set (Kd.R_set HRv.out BK7w.out (by decide) 0 _) (blk_far BK6w.out N67.out _) (by decide) 0 _,
      Kd.R_nil _ _ _ _ _, blk_far (blk_far BK2w.out N27.out _) N2.out _, blk_far (blk_far BK4w.out N47.out _) N6.out _, below_set (below_set (HB.out.trans (HBv.out.mono HB.out.size)) Hg7.out) Hg6.out, by have := HBv.out.size; simpa using this⟩
    have hz29 : ((w8.setCell ⟨g7, 0, none⟩ (.slice A21 X.length c21)).setCell ⟨g6, 0, none⟩ (.slice A' F.length c')).cell? ⟨g2, 1, none⟩ = some (.slice A1 Y.length c1) := (blk_cell (blk_far (blk_far BK2w.out N27.out _) N2.out _) 1).trans rfl
    have HG2w : Aside0 (g6 < w7.heap.size) := ⟨blk_lt BK6.out⟩
    obtain ⟨w9, hw9⟩ : ∃ w9, w9 = (w8.setCell ⟨g7, 0, none⟩ (.slice A21 X.length c21)).setCell ⟨g6, 0, none⟩ (.slice A' F.length c') := ⟨_, rfl⟩
    rw [← hw9] at HLp hz29 ⊢
    clear hw9 HQ' HF HRv HBv BK2w BK4w BK6w BK7w BK2 BK4 BK6 BK7 HCx HXl HLx hlv hnm hlm hs26 hs20 hz6 hz2
    go_wp2_with fail
    go_loopw [31] (fun v31 w' => ∃ q : Nat, q ≤ Y.length ∧ v31 = .int .i64 (q : Int) ∧ Aside0 (LoopM W w7 w6.heap.size g2 g4 g6 g7 #[.slice A0 X.length c0, .slice A1 Y.length c1] X M q w')) (fun i _ => Y.length - (intOf i).toNat)
    case atStart => exact ⟨0, Nat.zero_le _, rfl, HLp⟩
    case round =>
      obtain ⟨q, hq, rfl, HI⟩ := hrel
      clear HLp hz29
      obtain ⟨G, A, c, v0, vr, hG, h6, hQ, h7, hR0, hRr, h2, h4, hB, hsz⟩ := HI.out
      have K6 := Aside0.mk h6
      have K7 := Aside0.mk h7
      have K2 := Aside0.mk h2
      have K4 := Aside0.mk h4
      have HBw := Aside0.mk hB
      have HQ := Aside0.mk hQ
      have HR0 := Aside0.mk hR0
      have HRr := Aside0.mk hRr
      have HG := Aside0.mk hG
      have HSz := Aside0.mk hsz
      clear hG h6 hQ h7 hR0 hRr h2 h4 hB hsz HI
      by_cases hlt : q < Y.length
      · have g0 : (0 : Int) ≤ q := by omega
        have g1 : (q : Int) < Y.length := by omega
        obtain ⟨ad, A2, c2, e0, hx, hl, hC⟩ := at_ints (Kd.C_below HR1.out HBw.out) q hlt rfl
        cases e0
        have hwp : wrap64 ((q : Int) + 1) = (q : Int) + 1 := wrap_in (by omega) (by omega)
        have hqM : q < M.length := by rw [HL.out.2.1]; exact hlt
        have HYM : Aside0 (M[q].length = Y[q].length) := ⟨HL.out.2.2 q hqM hlt⟩
        have HTk : Aside0 (M.take (q + 1) = M.take q ++ [M[q]]) := ⟨List.take_succ_eq_append_getElem hqM⟩
        have HDr : Aside0 (G = M[q] ++ (M.drop (q + 1)).flatten) := ⟨by rw [HG.out, List.drop_eq_getElem_cons hqM, List.flatten_cons]⟩
        obtain ⟨r, hr⟩ : ∃ r, r = M[q] := ⟨_, rfl⟩
        obtain ⟨G', hG'⟩ : ∃ G', G' = (M.drop (q + 1)).flatten := ⟨_, rfl⟩
        have HG' := Aside0.mk hG'
        rw [← hr] at HYM HTk HDr
        rw [← hG'] at HDr
        rw [← HYM.out] at hx
        obtain rfl := HDr.out
        have hmr : r.length ≤ 9223372036854775807 := by have := Kd.C_max hC; rw [HYM.out]; exact this
        have Hbr : Aside0 (r.length * 8 ≤ 140737488355328) := ⟨by
          have h1 := HMx.out
          have h2 := drop_flat M q
          rw [← HG.out, List.length_append] at h2
          rw [List.length_append] at h1
          omega⟩
        obtain ⟨hs40, hle, hCr, A', c', hs47, hQ'⟩ := cut_both HQ.out r.length (by rw [List.length_append]; omega)
        rw [List.take_left' rfl] at hCr
        rw [List.drop_left' rfl] at hs47 hQ'
        have HCr : Aside0 (kI.C wr.drew A r.length r) := ⟨Kd.C_drew hCr⟩
        have HQ' := Aside0.mk hQ'
        have HLr := Aside0.mk hle
        have hlm : r.length ≤ (r ++ G').length := by rw [List.length_append]; omega
        have hnm : (r ++ G').length ≤ 9223372036854775807 := Kd.C_max (Kd.Q_reads' HQ.out).2.2
        obtain ⟨nn, hnn⟩ : ∃ nn, nn = (r ++ G').length := ⟨_, rfl⟩
        rw [← hnn] at K6 hs40 hs47 hlm hnm
        have Hal : Aside0 (((M.take q).length + 1) * 24 ≤ 140737488355328) := ⟨by have h1 := Ha.out; have h2 := HL.out.2.1; rw [List.length_take, Nat.min_eq_left (Nat.le_of_lt hqM)]; omega⟩
        obtain ⟨L, hL⟩ : ∃ L, L = M.take q := ⟨_, rfl⟩
        rw [← hL] at HRr HTk Hal
        have hz6 : wr.cell? ⟨g6, 0, none⟩ = some (.slice A nn c) := (blk_cell K6.out 0).trans rfl
        have HK6c : Aside0 (wr.drew.heap[g6]? = some (.cells #[.slice A nn c] 22 (0, 0))) := ⟨K6.out⟩
        have HK7c : Aside0 (wr.drew.heap[g7]? = some (.cells #[v0, vr] 31 (0, 0))) := ⟨K7.out⟩
        clear hr hG' hle hCr hQ' hnn hC hl hL hqM HQ
        go_wp2_with fail
        refine start_ (n := 16) (S := fun w' => w'.cell? ⟨g6, 0, none⟩ = some (.slice A nn c)) (ds := [15]) #[false, false, false, false, false, false, false, false, false, false, false, false, false, false, false, false] (by kernel_rfl) rfl rfl (hz6) (fun hHeld => ?_)
        refine with_tabW TAB_13.tab9 TAB_13.bits9 (fun HT_ HW_ => ?_)
        refine pure_ (i := 0) (N := some 35) (v := ?_) (a' := ?_) #[true, false, false, false, false, false, false, false, false, false, false, false, false, false, false, false] rfl rfl (any_of HT_.out (by kernel_rfl)) (fun _ _ _ h => h) (Or.inl ⟨by rfl, ?_⟩) ?_ ?_
        rotate_left
        · intro w'
          go_simp
          with_reducible rfl
        rotate_left
        · simp only [Act.put, List.setIfInBounds_toArray, List.set_cons_zero, List.set_cons_succ, i64_w, i32_w]
          rfl
        refine pure_ (i := 3) (N := some 38) (v := ?_) (a' := ?_) #[true, false, false, true, false, false, false, false, false, false, false, false, false, false, false, false] rfl rfl (any_of HT_.out (by kernel_rfl)) (fun _ _ _ h => h) (Or.inl ⟨by rfl, ?_⟩) ?_ ?_
        rotate_left
        · intro w'
          go_simp
          with_reducible rfl
        rotate_left
        · simp only [Act.put, List.setIfInBounds_toArray, List.set_cons_zero, List.set_cons_succ, i64_w, i32_w]
          rfl
        refine pure_ (i := 4) (N := some 39) (v := ?_) (a' := ?_) #[true, false, false, true, true, false, false, false, false, false, false, false, false, false, false, false] rfl rfl (any_of HT_.out (by kernel_rfl)) (fun _ _ _ h => h) (Or.inl ⟨by rfl, ?_⟩) ?_ ?_
        rotate_left
        · intro w'
          go_simp
          with_reducible rfl
        rotate_left
        · simp only [Act.put, List.setIfInBounds_toArray, List.set_cons_zero, List.set_cons_succ, i64_w, i32_w]
          rfl
        refine pure_ (i := 10) (N := some 45) (v := ?_) (a' := ?_) #[true, false, false, true, true, false, false, false, false, false, true, false, false, false, false, false] rfl rfl (any_of HT_.out (by kernel_rfl)) (fun _ _ _ h => h) (Or.inl ⟨by rfl, ?_⟩) ?_ ?_
        rotate_left
        · intro w'
          go_simp
          with_reducible rfl
        rotate_left
        · simp only [Act.put, List.setIfInBounds_toArray, List.set_cons_zero, List.set_cons_succ, i64_w, i32_w]
          rfl
        refine pure_ (i := 11) (N := some 46) (v := ?_) (a' := ?_) #[true, false, false, true, true, false, false, false, false, false, true, true, false, false, false, false] rfl rfl (any_of HT_.out (by kernel_rfl)) (fun _ _ _ h => h) (Or.inl ⟨by rfl, ?_⟩) ?_ ?_
        rotate_left
        · intro w'
          go_simp
          with_reducible rfl
        rotate_left
        · simp only [Act.put, List.setIfInBounds_toArray, List.set_cons_zero, List.set_cons_succ, i64_w, i32_w]
          rfl
        refine take_ (i := 2) (N := some 37) (v := ?_) (a' := ?_) #[true, false, true, true, true, false, false, false, false, false, true, true, false, false, false, false] rfl rfl (take_ofW HT_.out HW_.out (by kernel_rfl)) (fun _ _ _ h => h) (Or.inl ⟨by rfl, ?_⟩) hHeld ?_ ?_
        rotate_left
        · intro w' s0
          go_simp
          with_reducible rfl
        rotate_left
        · simp only [Act.put, List.setIfInBounds_toArray, List.set_cons_zero, List.set_cons_succ, i64_w, i32_w]
          rfl
        refine pure_ (i := 5) (N := some 40) (v := ?_) (a' := ?_) #[true, false, true, true, true, true, false, false, false, false, true, true, false, false, false, false] rfl rfl (any_of HT_.out (by kernel_rfl)) (fun _ _ _ h => h) (Or.inl ⟨by rfl, ?_⟩) ?_ ?_
        rotate_left
        · intro w'
          go_simp
          with_reducible rfl
        rotate_left
        · simp only [Act.put, List.setIfInBounds_toArray, List.set_cons_zero, List.set_cons_succ, i64_w, i32_w]
          rfl
        refine take_ (i := 9) (N := some 44) (v := ?_) (a' := ?_) #[true, false, true, true, true, true, false, false, false, true, true, true, false, false, false, false] rfl rfl (take_ofW HT_.out HW_.out (by kernel_rfl)) (fun _ _ _ h => h) (Or.inl ⟨by rfl, ?_⟩) hHeld ?_ ?_
        rotate_left
        · intro w' s0
          go_simp
          with_reducible rfl
        rotate_left
        · simp only [Act.put, List.setIfInBounds_toArray, List.set_cons_zero, List.set_cons_succ, i64_w, i32_w]
          rfl
        refine pure_ (i := 12) (N := some 47) (v := ?_) (a' := ?_) #[true, false, true, true, true, true, false, false, false, true, true, true, true, false, false, false] rfl rfl (any_of HT_.out (by kernel_rfl)) (fun _ _ _ h => h) (Or.inl ⟨by rfl, ?_⟩) ?_ ?_
        rotate_left
        · intro w'
          go_simp
          with_reducible rfl
        rotate_left
        · simp only [Act.put, List.setIfInBounds_toArray, List.set_cons_zero, List.set_cons_succ, i64_w, i32_w]
          rfl
        refine join_ (σ := Value × World) 4 #[true, true, true, true, true, true, true, true, false, true, true, true, true, false, false, false] (fun s => [(36, vr), (41, s.1), (42, .slice (some ⟨s.2.heap.size, 0, none⟩) 1 1)]) (fun s w' => w' = s.2.alloc (.cells #[s.1] 22) ∧ kI.R 3 s.2 wr.drew.heap.size (fun k => wr.drew.heap.size ≤ k) s.1 r ∧ Below wr.drew.heap.size wr.drew s.2) ?_ ?_
        rotate_left
        · intro hCont
          refine two_ (i := 1) (j := 6) (Ni := some 36) (Nj := some 41) #[true, true, true, true, true, true, false, false, false, true, true, true, true, false, false, false] #[true, false, true, true, true, true, true, false, false, true, true, true, true, false, false, false] rfl rfl rfl rfl (two_of HT_.out (by kernel_rfl)) (by decide) (by decide) (fun K hK => ?_) (fun K hK => ?_)
          · skip
            have hld : _ = some vr := (blk_cell HK7c.out 1).trans rfl
            refine value_ (w1 := ?_) (v := ?_) (by rfl) rfl ?_ ?_
            rotate_left 2
            · go_simp
              constructor
              · rfl
              · rfl
            clear hld
            refine hK.out _ _ ((blk_cell HK6c.out 0).trans rfl) (fun hHeld => ?_)
            clear hK K
            refine norm_ (a' := ?_) ?_ ?_
            rotate_left
            · show Act.put _ (some 36) _ = _
              simp only [Act.put, List.setIfInBounds_toArray, List.set_cons_zero, List.set_cons_succ, i64_w, i32_w]
              rfl
            refine one_ (i := 6) (N := some 41) #[true, true, true, true, true, true, true, false, false, true, true, true, true, false, false, false] rfl rfl (one_of HT_.out (by kernel_rfl)) (by decide) (fun K hK => ?_)
            refine goes_ Try.func29 (by kernel_rfl) rfl #[.slice A r.length c] (by rfl) rfl rfl (by simp only [List.map_toArray, List.map_cons, List.map_nil]; rfl) ?_
            with_reducible refine (clone_any r A c _ HCr.out HLr.out Hbr.out).mono ?_
            rintro e_ wc ⟨v41, rfl, hRv, hBv⟩
            refine ⟨_, rfl, ?_⟩
            obtain ⟨A41, c41, rfl⟩ := Kd.R_slice hRv
            have HRv := Aside0.mk hRv
            have HBv := Aside0.mk hBv
            have HK6_ := Aside0.mk (blk_below HK6c.out hBv)
            have HK7_ := Aside0.mk (blk_below HK7c.out hBv)
            clear HK6c HK7c hRv hBv
            have HK6c := HK6_
            have HK7c := HK7_
            clear HK6_ HK7_
            refine hK.out _ _ ((blk_cell HK6c.out 0).trans rfl) (fun hHeld => ?_)
            clear hK K
            refine norm_ (a' := ?_) ?_ ?_
            rotate_left
            · show Act.put _ (some 41) _ = _
              simp only [Act.put, List.setIfInBounds_toArray, List.set_cons_zero, List.set_cons_succ, i64_w, i32_w]
              rfl
            refine one_ (i := 7) (N := some 42) #[true, true, true, true, true, true, true, true, false, true, true, true, true, false, false, false] rfl rfl (one_of HT_.out (by kernel_rfl)) (by decide) (fun K hK => ?_)
            refine value_ (w1 := ?_) (v := ?_) (by rfl) rfl ?_ ?_
            rotate_left 2
            · go_simp
              constructor
              · rfl
              · rfl
            have HK6_ := Aside0.mk (blk_alloc HK6c.out (.cells #[.slice A41 r.length c41] 22))
            have HK7_ := Aside0.mk (blk_alloc HK7c.out (.cells #[.slice A41 r.length c41] 22))
            clear HK6c HK7c
            have HK6c := HK6_
            have HK7c := HK7_
            clear HK6_ HK7_
            refine hK.out _ _ ((blk_cell HK6c.out 0).trans rfl) (fun hHeld => ?_)
            clear hK K
            refine norm_ (a' := ?_) ?_ ?_
            rotate_left
            · show Act.put _ (some 42) _ = _
              simp only [Act.put, List.setIfInBounds_toArray, List.set_cons_zero, List.set_cons_succ, i64_w, i32_w]
              rfl
            exact norm_ (by simp only [putAll, Act.put, List.setIfInBounds_toArray, List.set_cons_zero, List.set_cons_succ]) (hCont (.slice A41 r.length c41, wc) _ ⟨rfl, HRv.out, HBv.out⟩)
          · skip
            refine goes_ Try.func29 (by kernel_rfl) rfl #[.slice A r.length c] (by rfl) rfl rfl (by simp only [List.map_toArray, List.map_cons, List.map_nil]; rfl) ?_
            with_reducible refine (clone_any r A c _ HCr.out HLr.out Hbr.out).mono ?_
            rintro e_ wc ⟨v41, rfl, hRv, hBv⟩
            refine ⟨_, rfl, ?_⟩
            obtain ⟨A41, c41, rfl⟩ := Kd.R_slice hRv
            have HRv := Aside0.mk hRv
            have HBv := Aside0.mk hBv
            have HK6_ := Aside0.mk (blk_below HK6c.out hBv)
            have HK7_ := Aside0.mk (blk_below HK7c.out hBv)
            clear HK6c HK7c hRv hBv
            have HK6c := HK6_
            have HK7c := HK7_
            clear HK6_ HK7_
            refine hK.out _ _ ((blk_cell HK6c.out 0).trans rfl) (fun hHeld => ?_)
            clear hK K
            refine norm_ (a' := ?_) ?_ ?_
            rotate_left
            · show Act.put _ (some 41) _ = _
              simp only [Act.put, List.setIfInBounds_toArray, List.set_cons_zero, List.set_cons_succ, i64_w, i32_w]
              rfl
            refine two_ (i := 1) (j := 7) (Ni := some 36) (Nj := some 42) #[true, true, true, true, true, true, true, false, false, true, true, true, true, false, false, false] #[true, false, true, true, true, true, true, true, false, true, true, true, true, false, false, false] rfl rfl rfl rfl (two_of HT_.out (by kernel_rfl)) (by decide) (by decide) (fun K hK => ?_) (fun K hK => ?_)
            · skip
              have hld : _ = some vr := (blk_cell HK7c.out 1).trans rfl
              refine value_ (w1 := ?_) (v := ?_) (by rfl) rfl ?_ ?_
              rotate_left 2
              · go_simp
                constructor
                · rfl
                · rfl
              clear hld
              refine hK.out _ _ ((blk_cell HK6c.out 0).trans rfl) (fun hHeld => ?_)
              clear hK K
              refine norm_ (a' := ?_) ?_ ?_
              rotate_left
              · show Act.put _ (some 36) _ = _
                simp only [Act.put, List.setIfInBounds_toArray, List.set_cons_zero, List.set_cons_succ, i64_w, i32_w]
                rfl
              refine one_ (i := 7) (N := some 42) #[true, true, true, true, true, true, true, true, false, true, true, true, true, false, false, false] rfl rfl (one_of HT_.out (by kernel_rfl)) (by decide) (fun K hK => ?_)
              refine value_ (w1 := ?_) (v := ?_) (by rfl) rfl ?_ ?_
              rotate_left 2
              · go_simp
                constructor
                · rfl
                · rfl
              have HK6_ := Aside0.mk (blk_alloc HK6c.out (.cells #[.slice A41 r.length c41] 22))
              have HK7_ := Aside0.mk (blk_alloc HK7c.out (.cells #[.slice A41 r.length c41] 22))
              clear HK6c HK7c
              have HK6c := HK6_
              have HK7c := HK7_
              clear HK6_ HK7_
              refine hK.out _ _ ((blk_cell HK6c.out 0).trans rfl) (fun hHeld => ?_)
              clear hK K
              refine norm_ (a' := ?_) ?_ ?_
              rotate_left
              · show Act.put _ (some 42) _ = _
                simp only [Act.put, List.setIfInBounds_toArray, List.set_cons_zero, List.set_cons_succ, i64_w, i32_w]
                rfl
              exact norm_ (by simp only [putAll, Act.put, List.setIfInBounds_toArray, List.set_cons_zero, List.set_cons_succ]) (hCont (.slice A41 r.length c41, wc) _ ⟨rfl, HRv.out, HBv.out⟩)
            · skip
              refine value_ (w1 := ?_) (v := ?_) (by rfl) rfl ?_ ?_
              rotate_left 2
              · go_simp
                constructor
                · rfl
                · rfl
              have HK6_ := Aside0.mk (blk_alloc HK6c.out (.cells #[.slice A41 r.length c41] 22))
              have HK7_ := Aside0.mk (blk_alloc HK7c.out (.cells #[.slice A41 r.length c41] 22))
              clear HK6c HK7c
              have HK6c := HK6_
              have HK7c := HK7_
              clear HK6_ HK7_
              refine hK.out _ _ ((blk_cell HK6c.out 0).trans rfl) (fun hHeld => ?_)
              clear hK K
              refine norm_ (a' := ?_) ?_ ?_
              rotate_left
              · show Act.put _ (some 42) _ = _
                simp only [Act.put, List.setIfInBounds_toArray, List.set_cons_zero, List.set_cons_succ, i64_w, i32_w]
                rfl
              refine one_ (i := 1) (N := some 36) #[true, true, true, true, true, true, true, true, false, true, true, true, true, false, false, false] rfl rfl (one_of HT_.out (by kernel_rfl)) (by decide) (fun K hK => ?_)
              have hld : _ = some vr := (blk_cell HK7c.out 1).trans rfl
              refine value_ (w1 := ?_) (v := ?_) (by rfl) rfl ?_ ?_
              rotate_left 2
              · go_simp
                constructor
                · rfl
                · rfl
              clear hld
              refine hK.out _ _ ((blk_cell HK6c.out 0).trans rfl) (fun hHeld => ?_)
              clear hK K
              refine norm_ (a' := ?_) ?_ ?_
              rotate_left
              · show Act.put _ (some 36) _ = _
                simp only [Act.put, List.setIfInBounds_toArray, List.set_cons_zero, List.set_cons_succ, i64_w, i32_w]
                rfl
              exact norm_ (by simp only [putAll, Act.put, List.setIfInBounds_toArray, List.set_cons_zero, List.set_cons_succ]) (hCont (.slice A41 r.length c41, wc) _ ⟨rfl, HRv.out, HBv.out⟩)
        rintro ⟨v41, wc⟩ w10 ⟨hw, hRv, hBv⟩
        replace hw : w10 = wc.alloc (.cells #[v41] 22) := hw
        subst hw
        obtain ⟨A41, c41, e41⟩ := Kd.R_slice hRv
        replace e41 : v41 = .slice A41 r.length c41 := e41
        subst e41
        have HRv : Aside0 (kI.R 3 wc wr.heap.size (fun k => wr.heap.size ≤ k) (.slice A41 r.length c41) r) := ⟨hRv⟩
        have HBv : Aside0 (Below wr.heap.size wr wc) := ⟨(below_drew (Below.refl wr.heap.size wr)).trans hBv⟩
        have K6c := Aside0.mk (blk_below K6.out HBv.out)
        have K7c := Aside0.mk (blk_below K7.out HBv.out)
        have hHeld : (wc.alloc (.cells #[.slice A41 r.length c41] 22)).cell? ⟨g6, 0, none⟩ = some (.slice A nn c) := (blk_cell (blk_alloc K6c.out _) 0).trans rfl
        clear hRv hBv HK6c HK7c
        refine norm_ (a' := ?_) ?_ ?_
        rotate_left
        · simp only [putAll, Act.put, List.setIfInBounds_toArray, List.set_cons_zero, List.set_cons_succ]
          rfl
        refine one_ (i := 8) (N := some 43) #[true, true, true, true, true, true, true, true, true, true, true, true, true, false, false, false] rfl rfl (one_of HT_.out (by kernel_rfl)) (by decide) (fun K hK => ?_)
        refine Kd.R_append_step kL (w0 := wc) w7.heap.size (by rfl) (.tmp 36) (.tmp 42) 29 22 (.slice none 0 0) 24 (by rfl) Try.underlying29 info22 (by rfl) (by decide) (by omega) vr L r [.slice A41 r.length c41] (fun k => w7.heap.size ≤ k) (fun k => wr.heap.size ≤ k) (by rfl) (by rfl) ?aP ?aK ?aF ?aO ?aB ?aS ?aL ?_
        case aP => exact Kd.M_row (Kd.R_lower HRv.out HSz.out)
        case aK => exact fun k hk => ⟨Nat.le_trans HSz.out hk, fun he => by have := Kd.R_lt HRr.out k he.symm; omega⟩
        case aF => exact fun k hk => Nat.le_trans HSz.out (Nat.le_trans HBv.out.size hk)
        case aO => exact Kd.R_below HRr.out HBv.out
        case aB => exact Below.refl _ _
        case aS => exact Nat.le_trans HSz.out HBv.out.size
        case aL => exact Hal.out
        intro v43 w11 ho hb hg hat
        obtain ⟨L', hL'⟩ : ∃ L', L' = L ++ [r] := ⟨_, rfl⟩
        rw [← hL'] at ho
        have HL' := Aside0.mk hL'
        clear hL'
        obtain ⟨A43, c43, rfl⟩ := Kd.R_slice ho
        have HRr' := Aside0.mk (Kd.R_below HRr.out HBv.out)
        have E6 := Aside0.mk (blk_grown K6c.out hg (Kd.R_away HRr'.out (fun k hk e => by have := HG2w.out; omega)))
        have E7 := Aside0.mk (blk_grown K7c.out hg (Kd.R_ne HRr'.out K7c.out (by decide)))
        have E2 := Aside0.mk (blk_grown (blk_below K2.out HBv.out) hg (Kd.R_ne HRr'.out (blk_below K2.out HBv.out) (by decide)))
        have E4 := Aside0.mk (blk_grown (blk_below K4.out HBv.out) hg (Kd.R_ne HRr'.out (blk_below K4.out HBv.out) (by decide)))
        have EQ := Aside0.mk (Kd.Q_grown (Kd.Q_below HQ'.out HBv.out) hg (fun k hk e => by have := Kd.R_base HRr'.out k e.symm; omega))
        have ER0 := Aside0.mk (Kd.R_over (Kd.R_below HR0.out HBv.out) HRr'.out (by decide) hg)
        have ERr := Aside0.mk ho
        have EB := Aside0.mk (HBw.out.trans ((HBv.out.mono HBw.out.size).trans (hb.mono (Nat.le_trans HB.out.size (Nat.le_refl _)))))
        have ESz := Aside0.mk (Nat.le_trans HSz.out (Nat.le_trans HBv.out.size hb.size))
        clear ho hb hg hat
        refine hK.out _ _ ((blk_cell E6.out 0).trans rfl) (fun hHeld => ?_)
        clear hK K
        refine norm_ (a' := ?_) ?_ ?_
        rotate_left
        · show Act.put _ (some 43) _ = _
          simp only [Act.put, List.setIfInBounds_toArray, List.set_cons_zero, List.set_cons_succ, i64_w, i32_w]
          rfl
        refine pure_ (i := 13) (N := some 48) (v := ?_) (a' := ?_) #[true, true, true, true, true, true, true, true, true, true, true, true, true, true, false, false] rfl rfl (any_of HT_.out (by kernel_rfl)) (fun _ _ _ h => h) (Or.inl ⟨by rfl, ?_⟩) ?_ ?_
        rotate_left
        · intro w'
          go_simp
          with_reducible rfl
        rotate_left
        · simp only [Act.put, List.setIfInBounds_toArray, List.set_cons_zero, List.set_cons_succ, i64_w, i32_w]
          rfl
        refine one_ (i := 14) (N := none) #[true, true, true, true, true, true, true, true, true, true, true, true, true, true, true, false] rfl rfl (one_of HT_.out (by kernel_rfl)) (by decide) (fun K hK => ?_)
        have hfz := blk_frozen E7.out 1
        have hcz : w11.cell? ⟨g7, 1, none⟩ = some vr := (blk_cell E7.out 1).trans rfl
        refine skip_ (w1 := ?_) (by rfl) rfl ?_ ?_
        rotate_left
        · go_simp
          rfl
        clear hfz hcz
        refine hK.out _ _ ((blk_cell (blk_far E6.out N67.out _) 0).trans rfl) (fun hHeld => ?_)
        clear hK K
        refine last_ (i := 15) (N := none) #[true, true, true, true, true, true, true, true, true, true, true, true, true, true, true, true] rfl rfl (one_of HT_.out (by kernel_rfl)) (by decide) (fun K hK => ?_)
        have hfz := blk_frozen (blk_far E6.out (p := ⟨g7, 1, none⟩) N67.out (.slice A43 L'.length c43)) 0
        have hcz : (w11.setCell ⟨g7, 1, none⟩ (.slice A43 L'.length c43)).cell? ⟨g6, 0, none⟩ = some (.slice A nn c) := (blk_cell (blk_far E6.out N67.out _) 0).trans rfl
        refine skip_ (w1 := ?_) (by rfl) rfl ?_ ?_
        rotate_left
        · go_simp
          rfl
        clear hfz hcz
        refine hK.out _ _ ?_
        clear hK K
        refine done_ (done_of HT_.out (by kernel_rfl)) ?_

        clear HT_ HW_
        have HI2 : Aside0 (LoopM W w7 w6.heap.size g2 g4 g6 g7 #[.slice A0 X.length c0, .slice (some ad) Y.length c1] X M (q + 1) ((w11.setCell ⟨g7, 1, none⟩ (.slice A43 L'.length c43)).setCell ⟨g6, 0, none⟩ (.slice A' G'.length c'))) := ⟨G', A', c', v0, .slice A43 L'.length c43, HG'.out, (blk_set (blk_far E6.out N67.out _) 0 _).trans rfl,
          Kd.Q_set (Kd.Q_set EQ.out E7.out (by decide) 1 _) (blk_far E6.out N67.out _) (by decide) 0 _,
          (blk_far (blk_set E7.out 1 _) N67.out.symm _).trans rfl,
          Kd.R_set (Kd.R_set ER0.out E7.out (by decide) 1 _) (blk_far E6.out N67.out _) (by decide) 0 _,
          by rw [HTk.out, ← HL'.out]; exact Kd.R_far (Kd.R_set ERr.out E7.out (by decide) 1 _) (fun k hk e => by have := HG2w.out; have e' : k = g6 := e; omega) _,
          blk_far (blk_far E2.out N27.out _) N2.out _, blk_far (blk_far E4.out N47.out _) N6.out _, below_set (below_set EB.out Hg7.out) Hg6.out, by have := ESz.out; simpa using this⟩
        clear K6 K7 K2 K4 HBw HR0 HRr HQ' E6 E7 E2 E4 EQ ER0 ERr EB ESz HRv HBv K6c K7c HCr HG HG' HTk HL' Hal hs40 hs47 hx hz6 hlm hnm hmr HLr Hbr HYM
        go_wp2_with fail
        go_roundw
        case rel => exact ⟨q + 1, by omega, by go_num, HI2⟩
        case measure => simp [intOf]; omega
      · obtain rfl : Y.length = q := by omega
        have e1 : M.take Y.length = M := List.take_of_length_le (by rw [HL.out.2.1]; exact Nat.le_refl _)
        have HRr' : Aside0 (kL.R 22 wr w7.heap.size (fun k => w7.heap.size ≤ k) vr M) := ⟨by have h := HRr.out; rw [e1] at h; exact h⟩
        obtain ⟨AX, cX, rfl⟩ := Kd.R_slice HR0.out
        obtain ⟨AM, cM, rfl⟩ := Kd.R_slice HRr'.out
        have hz0 : wr.cell? ⟨g7, 0, none⟩ = some (.slice AX X.length cX) := (blk_cell K7.out 0).trans rfl
        have hz1 : wr.cell? ⟨g7, 1, none⟩ = some (.slice AM M.length cM) := (blk_cell K7.out 1).trans rfl
        have hf0 := blk_frozen K4.out 0
        have hf1 := blk_frozen K4.out 1
        have hy0 : wr.cell? ⟨g4, 0, none⟩ = some (.slice none 0 0) := (blk_cell K4.out 0).trans rfl
        have hy1 : wr.cell? ⟨g4, 1, none⟩ = some (.slice none 0 0) := (blk_cell K4.out 1).trans rfl
        have HX := Aside0.mk (Kd.R_mono (Kd.R_lower (Kd.R_set (Kd.R_set HR0.out K4.out (by decide) 0 (.slice AX X.length cX)) (blk_set K4.out 0 _) (by decide) 1 (.slice AM M.length cM)) HB.out.size) (ok' := fun k => W.heap.size ≤ k) (fun k hk => Nat.le_trans HB.out.size hk))
        have HM := Aside0.mk (Kd.R_mono (Kd.R_lower (Kd.R_set (Kd.R_set HRr'.out K4.out (by decide) 0 (.slice AX X.length cX)) (blk_set K4.out 0 _) (by decide) 1 (.slice AM M.length cM)) HB.out.size) (ok' := fun k => W.heap.size ≤ k) (fun k hk => Nat.le_trans HB.out.size hk))
        clear hlt hq HR0 HRr HRr' HQ HG K6 K2 e1
        go_wp2_with fail
        refine bodyPost_ret (results_ct rfl _ _ g4 31 #[.slice AX X.length cX, .slice AM M.length cM] (0, 0) _ rfl ((blk_set (blk_set K4.out 0 _) 1 _).trans rfl) Try.underlying31 rfl (by kernel_rfl)) rfl ?_
        exact ⟨fun h => (by rw [hS] at h; cases h), fun _ => ⟨AX, cX, AM, cM, rfl, HX.out, HM.out⟩, below_set (below_set HBw.out Hg4.out) Hg4.out⟩
end Go.Proofs.Ytgemcomcjojjbaa.PS
