import Derived.Test.YtmjdiiockddalaaHOnce
import Derived.Test.YtmjdiiockddalaaPWx2
import Derived.Deep.RegionHeld3
import Derived.Deep.AppendLies
namespace Go.Proofs.Ytmjdiiockddalaa.PW
open Go.RowKit Go.Maps Go.Proofs.YtmjdiiockddalaaW.PrintWords Go.Proofs.YtmjdiiockddalaaW.PrintLast Go.Proofs.YtmjdiiockddalaaW.PrintMore
set_option linter.unusedVariables false
set_option linter.unusedSimpArgs false
attribute [local go_sem] max2_int min2_int max_two min_two

def wt (d : Int) : Int := if d < -1 then 9 else if d > 3 then 9 else d
def plus (d w : Int) : Int := if wt d = 9 then 9 else if wt w = 9 then 9 else mn (mx (wt d) 0 + wt w) 3

theorem ret_i {k : IntKind} {a b : Int} (h : a = b) : Ending.returned (.int k a) = .returned (.int k b) := by rw [h]
theorem wt_range (d : Int) : -1 ≤ wt d ∧ wt d ≤ 9 := by unfold wt; split <;> (try split) <;> omega

theorem weight_any (d : Int) (W : World) : Calls Try.prog 35 #[.int .i64 d] W fun e w' => e = .returned (.int .i64 (wt d)) ∧ W = w' := by
  by_cases h1 : d < -1
  · go_enter Try.func35, Try.ntmps35
    go_wp2
    go_ret
    exact ⟨by simp [wt, h1], rfl⟩
  · by_cases h2 : 3 < d
    · go_enter Try.func35, Try.ntmps35
      go_wp2
      go_ret
      exact ⟨ret_i (by unfold wt; (repeat' split) <;> omega), rfl⟩
    · go_enter Try.func35, Try.ntmps35
      go_wp2
      go_ret
      exact ⟨ret_i (by unfold wt; (repeat' split) <;> omega), rfl⟩

theorem plus_any (d x : Int) (W : World) : Calls Try.prog 17 #[.int .i64 d, .int .i64 x] W fun e w' => e = .returned (.int .i64 (plus d x)) ∧ W = w' := by
  have r1 := wt_range d
  have r2 := wt_range x
  obtain ⟨a, ha⟩ : ∃ a, a = wt d := ⟨_, rfl⟩
  obtain ⟨b, hb⟩ : ∃ b, b = wt x := ⟨_, rfl⟩
  have hp : plus d x = if a = 9 then 9 else if b = 9 then 9 else mn (mx a 0 + b) 3 := by rw [ha, hb]; rfl
  have c1 : ∀ W, Calls Try.prog 35 #[.int .i64 d] W fun e w' => e = .returned (.int .i64 a) ∧ W = w' := fun W => by rw [ha]; exact weight_any d W
  have c2 : ∀ W, Calls Try.prog 35 #[.int .i64 x] W fun e w' => e = .returned (.int .i64 b) ∧ W = w' := fun W => by rw [hb]; exact weight_any x W
  have C1 := Aside0.mk c1
  have C2 := Aside0.mk c2
  have HP := Aside0.mk hp
  rw [← ha] at r1
  rw [← hb] at r2
  clear c1 c2 hp ha hb
  by_cases e1 : a = 9
  · go_enter Try.func17, Try.ntmps17
    go_wp2_with fail
    refine (C1.out _).mono ?_
    rintro e w' ⟨rfl, rfl⟩
    go_wp2_with fail
    refine (C2.out _).mono ?_
    rintro e w' ⟨rfl, rfl⟩
    go_wp2
    go_ret
    exact ⟨by rw [HP.out, if_pos e1]; rfl, rfl⟩
  · by_cases e2 : b = 9
    · go_enter Try.func17, Try.ntmps17
      go_wp2_with fail
      refine (C1.out _).mono ?_
      rintro e w' ⟨rfl, rfl⟩
      go_wp2_with fail
      refine (C2.out _).mono ?_
      rintro e w' ⟨rfl, rfl⟩
      go_wp2
      go_ret
      exact ⟨by rw [HP.out, if_neg e1, if_pos e2]; rfl, rfl⟩
    · have e1' : (a == 9) = false := by simpa using e1
      have e2' : (b == 9) = false := by simpa using e2
      go_enter Try.func17, Try.ntmps17
      go_wp2_with fail
      refine (C1.out _).mono ?_
      rintro e w' ⟨rfl, rfl⟩
      go_wp2_with fail
      refine (C2.out _).mono ?_
      rintro e w' ⟨rfl, rfl⟩
      go_wp2
      all_goals
        go_ret
        refine ⟨ret_i ?_, rfl⟩
        rw [HP.out, if_neg e1, if_neg e2]
        unfold mn mx
        (repeat' split) <;> omega

theorem plus_same (d x : Int) (W : World) : Calls Try.prog 17 #[.int .i64 d, .int .i64 x] W fun e w' => e = .returned (.int .i64 (plus d x)) ∧ w' = W := (plus_any d x W).mono fun _ _ h => ⟨h.1, h.2.symm⟩
/-! the rows -/
def RowI (w : World) (g : Nat) (xs : List Int) : Prop := w.heap[g]? = some (.cells (nums .i64 xs).toArray 3 (0, 0))
theorem nums_get (xs : List Int) (i : Int) (h0 : 0 ≤ i) (h1 : i < xs.length) : (nums .i64 xs).toArray[i.toNat]? = some (.int .i64 (rd xs i)) := by
  have h : i.toNat < xs.length := by omega
  simp [nums, rd, List.getElem?_eq_getElem h, List.getD_eq_getElem?_getD]
theorem RowI.cell {w : World} {g : Nat} {xs : List Int} (h : RowI w g xs) (i : Int) (h0 : 0 ≤ i) (h1 : i < xs.length) : w.cell? ⟨g, i.toNat, none⟩ = some (.int .i64 (rd xs i)) :=
  (blk_cell h _).trans (nums_get xs i h0 h1)
theorem RowI.set {w : World} {g : Nat} {xs : List Int} (h : RowI w g xs) (i : Nat) (v : Int) : RowI (w.setCell ⟨g, i, none⟩ (.int .i64 v)) g (xs.set i v) := by
  have h2 := blk_set h i (.int .i64 v)
  unfold RowI
  rw [h2]
  congr 2
  simp [nums, List.map_set]
theorem RowI.below {w w1 : World} {B g : Nat} {xs : List Int} (h : RowI w g xs) (hb : Below B w w1) (hg : g < B) : RowI w1 g xs := (hb.block g hg).trans h

def nines (n : Nat) (k : Nat) : List Int := List.replicate k 9 ++ List.replicate (n - k) 0
theorem nines_len (n k : Nat) (h : k ≤ n) : (nines n k).length = n := by simp [nines]; omega
theorem nines_step (n j : Nat) (h : j < n) : (nines n j).set j 9 = nines n (j + 1) := by
  unfold nines
  rw [List.set_append_right _ _ (by simp)]
  simp only [List.length_replicate, Nat.sub_self]
  obtain ⟨d, hd⟩ : ∃ d, n - j = d + 1 := ⟨n - j - 1, by omega⟩
  rw [hd, show n - (j + 1) = d by omega, List.replicate_succ, List.set_cons_zero, List.replicate_succ', List.append_assoc]
  rfl
theorem nines_all (n : Nat) : nines n n = List.replicate n 9 := by simp [nines]
theorem made_row (w : World) (n : Nat) : RowI (w.alloc (Obj.cells (madeCells #[Value.int IntKind.i64 0] n) 3)) w.heap.size (nines n 0) := by
  unfold RowI
  rw [heap_alloc_new]
  congr 2
  have : (madeCells #[Value.int .i64 0] n).toList = nums .i64 (nines n 0) := by
    rw [toList_madeCells_one]
    simp [nums, nines]
  rw [← this]
/-- What waits: no thing twice, each a location. -/
structure GoodQ (n : Nat) (q : List Int) : Prop where
  nd : q.Nodup
  mem : ∀ x ∈ q, 0 ≤ x ∧ x < n
theorem GoodQ.len {n : Nat} {q : List Int} (h : GoodQ n q) : q.length ≤ n := by
  have h1 : (q.map Int.toNat).Nodup := by
    rw [List.nodup_iff_pairwise_ne, List.pairwise_map]
    exact (List.nodup_iff_pairwise_ne.1 h.nd).imp_of_mem (fun {a b} ha hb hab he => hab (by have := h.mem a ha; have := h.mem b hb; omega))
  have h2 : (q.map Int.toNat) ⊆ List.range n := by
    intro x hx
    obtain ⟨y, hy, rfl⟩ := List.mem_map.1 hx
    have := h.mem y hy
    rw [List.mem_range]
    omega
  have h3 := List.Nodup.length_le_of_subset h1 h2
  simpa using h3
theorem GoodQ.add {n : Nat} {q : List Int} (h : GoodQ n q) {t : Int} (h0 : 0 ≤ t) (h1 : t < n) : GoodQ n (addq q t) := by
  unfold addq
  split
  · exact h
  · rename_i hn
    refine ⟨?_, fun x hx => ?_⟩
    · rw [List.nodup_append]
      exact ⟨h.nd, by simp, fun a ha b hb => by simp at hb; subst hb; rintro rfl; exact hn ha⟩
    · rcases List.mem_append.1 hx with h2 | h2
      · exact h.mem x h2
      · simp at h2; subst h2; exact ⟨h0, h1⟩
theorem add_any (w : World) (B g m n : Nat) (L : List Int) (t : Int) (ht0 : 0 ≤ t) (ht1 : t < n) (hn : n ≤ 1048576) (h : OnceAt w B g m L) (hq : GoodQ n L) (hBs : B ≤ w.heap.size) :
    Calls Try.prog 33 #[.pointer (some ⟨g, 0, none⟩), .int .i64 t] w fun e w' => e = .returned (.tuple #[]) ∧ OnceAt w' B g m (addq L t) ∧ Below B w w' := by
  have hl := hq.len
  unfold addq
  split
  · exact add_has w B g m L t ht0 (by omega) h (by assumption) hBs
  · exact add_new w B g m L t ht0 (by omega) h (by assumption) (by omega) hBs
theorem OnceAt.keep {w w' : World} {B g m : Nat} {L : List Int} (h : OnceAt w B g m L) (hk : ∀ k, B ≤ k → w'.heap[k]? = w.heap[k]?) : OnceAt w' B g m L := by
  obtain ⟨⟨line, hblk, ⟨n, D, ⟨es, c, hm1, r⟩, hs⟩, hq⟩, hg, hm⟩ := h
  exact ⟨⟨line, (hk g hg).trans hblk, ⟨n, D, ⟨es, c, (hk m hm).trans hm1, r⟩, hs⟩, Kd.Q_mono (Kd.Q_move (Kd.Q_bound hq) (fun k hk' => hk k hk'.2.1)) (fun _ _ => trivial)⟩, hg, hm⟩
theorem OnceAt.far {w : World} {B g m g8 i : Nat} {L : List Int} {u : Value} (h : OnceAt w B g m L) (h8 : g8 < B) : OnceAt (w.setCell ⟨g8, i, none⟩ u) B g m L := h.keep fun k hk => Below.heap_setCell _ _ _ _ (by simp; omega)
def hdq : List Int → Int | [] => 0 | a :: _ => a
def okq : List Int → Bool | [] => false | _ :: _ => true
theorem hdq_nil : hdq [] = 0 := rfl
theorem hdq_cons (a : Int) (L : List Int) : hdq (a :: L) = a := rfl
theorem okq_nil : okq [] = false := rfl
theorem okq_cons (a : Int) (L : List Int) : okq (a :: L) = true := rfl
theorem next_any (w : World) (B g m n : Nat) (L : List Int) (hn : n ≤ 1048576) (h : OnceAt w B g m L) (hq : GoodQ n L) (hBs : B ≤ w.heap.size) :
    Calls Try.prog 34 #[.pointer (some ⟨g, 0, none⟩)] w fun e w' => e = .returned (.tuple #[.int .i64 (hdq L), .bool (okq L)]) ∧ OnceAt w' B g m L.tail ∧ Below B w w' := by
  cases L with
  | nil =>
    refine (next_nil w B g m h).mono ?_
    rintro e w' ⟨rfl, rfl⟩
    exact ⟨rfl, h, Below.refl _ _⟩
  | cons a L =>
    have hl := hq.len
    have hm := hq.mem a (by simp)
    have hnd := List.nodup_cons.1 hq.nd
    simp only [List.length_cons] at hl
    exact next_cons w B g m a L hm.1 (by omega) h hnd.1 (by omega) hBs
theorem once_made (w : World) : OnceAt ((w.alloc (Obj.map #[] 0)).alloc (Obj.cells #[Value.slice none 0 0, Value.map (some w.heap.size)] 59)) w.heap.size (w.heap.size + 1) w.heap.size [] := by
  refine ⟨⟨.slice none 0 0, ?_, ⟨0, .map [], (World.ownsMap_made w _ _ _).alloc _, fun x => ?_, rfl⟩, Kd.Q_nil _ _ _ _ _⟩, by omega, Nat.le_refl _⟩
  · have := heap_alloc_new (w.alloc (Obj.map #[] 0)) (Obj.cells #[Value.slice none 0 0, Value.map (some w.heap.size)] 59)
    simpa using this
  · simp [has]
theorem info28 : (Try.prog.info? 28).map (fun i => (i.zero, i.size, i.bytes)) = some (some (.slice none 0 0), 1, 24) := by kernel_rfl
def edgeCells (es : List S41) : List Value := es.flatMap fun e => [.int .i64 e.f0, .int .i64 e.f1, .int .i64 e.f2]

/-- The rows of edges, by location. -/
structure IntoAt (w : World) (B g : Nat) (I : List (List S41)) : Prop where
  out : ∃ vs : List Value, vs.length = I.length ∧ w.heap[g]? = some (.cells vs.toArray 28 (0, 0)) ∧ (∀ (i : Nat) (es : List S41) (v : Value), I[i]? = some es → vs[i]? = some v → w.ownsRow B 41 3 v es.length (edgeCells es)) ∧ (∀ (i j : Nat) (u v : Value), i ≠ j → vs[i]? = some u → vs[j]? = some v → NeRow u v)
theorem into_made (w : World) (B n : Nat) : IntoAt (w.alloc (Obj.cells (madeCells #[Value.slice none 0 0] n) 28)) B w.heap.size (List.replicate n []) := by
  refine ⟨List.replicate n (.slice none 0 0), by simp, ?_, ?_, ?_⟩
  · rw [heap_alloc_new, ← toList_madeCells_one]
  · intro i es v h1 h2
    rw [List.getElem?_replicate] at h1 h2
    split at h1
    · rw [if_pos (by assumption)] at h2
      cases h1; cases h2
      exact own_nil _ _ _ _
    · cases h1
  · intro i j u v hij h1 h2
    rw [List.getElem?_replicate] at h1
    split at h1
    · cases h1
      exact ne_nil v
    · cases h1

theorem IntoAt.below {w w' : World} {B g : Nat} {I : List (List S41)} (h : IntoAt w B g I) (hb : Below w.heap.size w w') : IntoAt w' B g I := by
  obtain ⟨vs, hl, hblk, ho, hn⟩ := h
  exact ⟨vs, hl, blk_below hblk hb, fun i es v h1 h2 => pw_own_below (ho i es v h1 h2) hb, hn⟩
theorem rd_mem (l : List S41) (q : Nat) (h : q < l.length) : rd_T41 l (q : Int) ∈ l := by
  unfold rd_T41
  rw [Int.toNat_natCast, List.getD_eq_getElem?_getD, List.getElem?_eq_getElem h]
  exact List.getElem_mem h
theorem take_next (l : List S41) (q : Nat) (h : q < l.length) : l.take (q + 1) = l.take q ++ [rd_T41 l (q : Int)] := by
  rw [List.take_succ_eq_append_getElem h]
  simp [rd_T41, List.getD_eq_getElem?_getD, List.getElem?_eq_getElem h]
def intoStep (I : List (List S41)) (e : S41) : List (List S41) := I.set e.f0.toNat (I.getD e.f0.toNat [] ++ [e])
def TAB_15.T13 : Bool × List (List Nat × List Nat) := (true, [([], []), ([], []), ([1], [1]), ([], []), ([], []), ([4], [4]), ([3, 5], [3, 5]), ([6], [6]), ([], []), ([8], [8]), ([7, 9], [7, 9]), ([0, 2, 0, 1, 2, 3, 4, 5, 6, 7, 8, 9, 10], [0, 2]), ([11, 10, 10, 0, 1, 2, 3, 4, 5, 6, 7, 8, 9, 10], [10, 11])])
def TAB_15.B13 : List Nat := [0, 0, 2, 0, 0, 16, 56, 120, 0, 256, 1016, 2047, 4095]
theorem TAB_15.tab13 : rtab .any (opsOf Try.f15 13) = TAB_15.T13 := by kernel_rfl
theorem TAB_15.bits13 : waitsOk TAB_15.T13.2 TAB_15.B13 = true := by kernel_rfl
def TAB_15.T28 : Bool × List (List Nat × List Nat) := (true, [([], []), ([], []), ([0, 1], [0, 1]), ([2], [2]), ([], []), ([4], [4]), ([3, 5], [3, 5]), ([6, 6, 0, 1, 2, 3, 4, 5, 6], [6])])
def TAB_15.B28 : List Nat := [0, 0, 3, 7, 0, 16, 63, 127]
theorem TAB_15.tab28 : rtab .any (opsOf Try.f15 28) = TAB_15.T28 := by kernel_rfl
theorem TAB_15.bits28 : waitsOk TAB_15.T28.2 TAB_15.B28 = true := by kernel_rfl
theorem fro_keep {w : World} {g d : Nat} {cs : Array Value} {t : TypeId} (h : w.frozen? ⟨g, d, none⟩ = false) (hb : w.heap[g]? = some (.cells cs t (0, 0))) (o : Obj) : (w.alloc o).frozen? ⟨g, d, none⟩ = false := blk_frozen (blk_alloc hb o) d
theorem cell_keep {w : World} {p : Addr} {v : Value} (h : w.cell? p = some v) (o : Obj) : (w.alloc o).cell? p = some v := pw_cell_below (below_alloc (Below.refl _ _) o) h
theorem into_len (l : List S41) : ∀ I : List (List S41), (l.foldl intoStep I).length = I.length := by
  induction l with
  | nil => intro I; rfl
  | cons e l ih => intro I; rw [List.foldl_cons, ih]; simp [intoStep]
theorem into_put {wE wA w2 : World} {B g d gg cap H : Nat} {I : List (List S41)} {e : S41} {es : List S41} {vs : List Value} {v : Value} (hd : e.f0.toNat = d) (hIe : I[d]? = some es) (hv : vs[d]? = some v)
    (hvl : vs.length = I.length) (hblk : wE.heap[g]? = some (.cells vs.toArray 28 (0, 0))) (ho : ∀ (i : Nat) (es : List S41) (v : Value), I[i]? = some es → vs[i]? = some v → wE.ownsRow B 41 3 v es.length (edgeCells es)) (hn : ∀ (i j : Nat) (u v : Value), i ≠ j → vs[i]? = some u → vs[j]? = some v → NeRow u v)
    (hb : Below wE.heap.size wE wA) (hgrow : wA.grownBy w2 v.ownBlock) (hown : w2.ownsRow B 41 3 (.slice (some ⟨gg, 0, none⟩) (es.length + 1) cap) (es.length + 1) (edgeCells es ++ [.int .i64 e.f0, .int .i64 e.f1, .int .i64 e.f2])) (hat : v.ownBlock = some gg ∨ gg = H) (hH : wE.heap.size ≤ H) :
    IntoAt (w2.setCell ⟨g, d, none⟩ (.slice (some ⟨gg, 0, none⟩) (es.length + 1) cap)) B g (intoStep I e) := by
  have hdl : d < I.length := (List.getElem?_eq_some_iff.1 hIe).1
  have hgv : some g ≠ v.ownBlock := own_ne (ho d es v hIe hv) hblk (by decide)
  have hblk2 : w2.heap[g]? = some (.cells vs.toArray 28 (0, 0)) := blk_grown (blk_below hblk hb) hgrow hgv
  have hstep : intoStep I e = I.set d (es ++ [e]) := by
    unfold intoStep
    rw [hd, List.getD_eq_getElem?_getD, hIe]
    rfl
  have hnew : ∀ j u, d ≠ j → vs[j]? = some u → NeRow (.slice (some ⟨gg, 0, none⟩) (es.length + 1) cap) u := by
    intro j u hj hu k hk hk2
    have hk' : gg = k := by simpa [Value.ownBlock] using hk
    subst hk'
    have hju : j < I.length := by rw [← hvl]; exact (List.getElem?_eq_some_iff.1 hu).1
    rcases hat with h | rfl
    · exact hn d j v u hj hv hu _ h hk2
    · have := own_lt (ho j _ u (List.getElem?_eq_getElem hju) hu) _ hk2
      omega
  refine ⟨vs.set d (.slice (some ⟨gg, 0, none⟩) (es.length + 1) cap), by rw [hstep]; simp [hvl], ?_, ?_, ?_⟩
  · rw [blk_set hblk2 d _]
    congr 2
    simp
  · intro i fs u h1 h2
    rw [hstep, List.getElem?_set] at h1
    rw [List.getElem?_set] at h2
    by_cases hi : d = i
    · subst hi
      rw [if_pos rfl, if_pos hdl] at h1
      rw [if_pos rfl, if_pos (by omega)] at h2
      cases h1; cases h2
      have e1 : (es ++ [e]).length = es.length + 1 := by simp
      have e2 : edgeCells (es ++ [e]) = edgeCells es ++ [.int .i64 e.f0, .int .i64 e.f1, .int .i64 e.f2] := by simp [edgeCells]
      rw [e1, e2]
      exact own_setCell hown (own_ne hown hblk2 (by decide)) _
    · rw [if_neg hi] at h1 h2
      have h3 := ho i fs u h1 h2
      have h4 : w2.ownsRow B 41 3 u fs.length (edgeCells fs) := own_other (pw_own_below h3 hb) hgrow (ne_other (hn d i v u hi hv h2))
      exact own_setCell h4 (own_ne h4 hblk2 (by decide)) _
  · intro i j u x hij h1 h2
    rw [List.getElem?_set] at h1 h2
    by_cases hi : d = i
    · subst hi
      rw [if_pos rfl, if_pos (by omega)] at h1
      rw [if_neg hij] at h2
      cases h1
      exact hnew j x hij h2
    · rw [if_neg hi] at h1
      by_cases hj : d = j
      · subst hj
        rw [if_pos rfl, if_pos (by omega)] at h2
        cases h2
        exact ne_symm (hnew i u hi h1)
      · rw [if_neg hj] at h2
        exact hn i j u x hij h1 h2
theorem into_row_len (l : List S41) : ∀ (I : List (List S41)) (m : Nat), (∀ es ∈ I, es.length ≤ m) → ∀ es ∈ l.foldl intoStep I, es.length ≤ m + l.length := by
  induction l with
  | nil => intro I m h es hes; simpa using h es hes
  | cons e l ih =>
    intro I m h es hes
    rw [List.foldl_cons] at hes
    have := ih (intoStep I e) (m + 1) (fun fs hfs => by
      unfold intoStep at hfs
      rcases List.mem_or_eq_of_mem_set hfs with h1 | h1
      · have := h fs h1; omega
      · subst h1
        rw [List.length_append, List.length_singleton, List.getD_eq_getElem?_getD]
        cases hI : I[e.f0.toNat]? with
        | none => simp
        | some x =>
          have := h x (List.mem_of_getElem? hI)
          simpa using this) es hes
    simp only [List.length_cons]
    omega
theorem edge_reps (w : World) (B : Nat) (ok : Nat → Prop) : ∀ es : List S41, Reps (k41.M w B ok) 3 es (edgeCells es)
  | [] => Reps.none _ _
  | e :: es => by
    have h1 : Reps (k41.M w B ok) 3 [e] [.int .i64 e.f0, .int .i64 e.f1, .int .i64 e.f2] := by
      have := Reps.snoc (Reps.none (k41.M w B ok) 3) (k41_mkM w B ok e) rfl
      simpa using this
    have := Kd.reps_append h1 (edge_reps w B ok es)
    simpa [edgeCells] using this
theorem edge_read {w : World} {B : Nat} {v : Value} {es : List S41} (h : w.ownsRow B 41 3 v es.length (edgeCells es)) (q : Nat) (hq : q < es.length) : ∃ g c cells, v = .slice (some ⟨g, 0, none⟩) es.length c ∧ w.heap[g]? = some (.cells cells 41 (0, 0)) ∧
    w.cell? ⟨g, q * 3, none⟩ = some (.int .i64 (rd_T41 es q).f0) ∧ w.cell? ⟨g, q * 3 + 1, none⟩ = some (.int .i64 (rd_T41 es q).f1) ∧ w.cell? ⟨g, q * 3 + 2, none⟩ = some (.int .i64 (rd_T41 es q).f2) := by
  have hR : k41.R 41 w B (fun _ => True) v es := ⟨fun _ _ => trivial, edgeCells es, h, edge_reps _ _ _ _⟩
  obtain ⟨g, c, rfl, _, _, cells, hc⟩ := Kd.R_form hR (by omega)
  obtain ⟨_, _, hC⟩ := Kd.R_reads' hR
  obtain ⟨ad, e0, h0, h1, h2⟩ := at_T41 hC (q : Int) (by omega) (by omega)
  cases e0
  simp only [Int.toNat_natCast, add_plain] at h0 h1 h2
  exact ⟨g, c, cells, rfl, hc, h0, h1, h2⟩
theorem into_mem (l : List S41) : ∀ (I : List (List S41)) (P : S41 → Prop), (∀ es ∈ I, ∀ e ∈ es, P e) → (∀ e ∈ l, P e) → ∀ es ∈ l.foldl intoStep I, ∀ e ∈ es, P e := by
  induction l with
  | nil => intro I P h _ es hes; exact h es hes
  | cons e l ih =>
    intro I P h hl es hes
    rw [List.foldl_cons] at hes
    refine ih (intoStep I e) P (fun fs hfs x hx => ?_) (fun x hx => hl x (List.mem_cons_of_mem _ hx)) es hes
    unfold intoStep at hfs
    rcases List.mem_or_eq_of_mem_set hfs with h1 | h1
    · exact h fs h1 x hx
    · subst h1
      rcases List.mem_append.1 hx with h2 | h2
      · rw [List.getD_eq_getElem?_getD] at h2
        cases hI : I[e.f0.toNat]? with
        | none => rw [hI] at h2; simp at h2
        | some y => rw [hI] at h2; exact h y (List.mem_of_getElem? hI) x h2
      · simp at h2
        subst h2
        exact hl x List.mem_cons_self
def startStep (s : List Int × List Int) (r : Int) : List Int × List Int := (s.1.set r.toNat 0, addq s.2 r)
theorem start_len (l : List Int) : ∀ s : List Int × List Int, (l.foldl startStep s).1.length = s.1.length := by
  induction l with
  | nil => intro s; rfl
  | cons e l ih => intro s; rw [List.foldl_cons, ih]; simp [startStep]
theorem rdOf_mem (l : List Int) (q : Nat) (h : q < l.length) : rdOf 0 l (q : Int) ∈ l := by
  unfold rdOf
  rw [Int.toNat_natCast, List.getD_eq_getElem?_getD, List.getElem?_eq_getElem h]
  exact List.getElem_mem h
theorem take_next' (l : List Int) (q : Nat) (h : q < l.length) : l.take (q + 1) = l.take q ++ [rdOf 0 l (q : Int)] := by
  rw [List.take_succ_eq_append_getElem h]
  simp [rdOf, List.getD_eq_getElem?_getD, List.getElem?_eq_getElem h]
def relaxStep (at_ : Int) (s : List Int × List Int) (e : S41) : List Int × List Int :=
  if plus (rd s.1 at_) e.f2 < rd s.1 e.f1 then (s.1.set e.f1.toNat (plus (rd s.1 at_) e.f2), addq s.2 e.f1) else s
theorem relax_len (a : Int) (l : List S41) : ∀ s : List Int × List Int, (l.foldl (relaxStep a) s).1.length = s.1.length := by
  induction l with
  | nil => intro s; rfl
  | cons e l ih => intro s; rw [List.foldl_cons, ih]; unfold relaxStep; split <;> simp
def run (I : List (List S41)) : Nat → List Int → List Int → Option (List Int)
  | 0, _, _ => none
  | k + 1, b, [] => some b
  | k + 1, b, a :: q => run I k ((I.getD a.toNat []).foldl (relaxStep a) (b, q)).1 ((I.getD a.toNat []).foldl (relaxStep a) (b, q)).2
set_option maxRecDepth 100000 in
set_option maxHeartbeats 1000000 in
theorem from_bad (k : Nat) (a0 : Int) (A1 : Option Addr) (c1 : Nat) (l1 : List S41) (A2 : Option Addr) (c2 : Nat) (l2 : List Int) (w : World) (hr1 : Kd.C k41 w A1 l1.length l1) (hc1 : l1.length ≤ c1) (hr2 : Kd.C (Kd.int .i64) w A2 l2.length l2) (hc2 : l2.length ≤ c2) (h : weigh_valid.f k a0 l1 l2 = some false) :
    Calls Try.prog 15 #[.int .i64 a0, .slice A1 l1.length c1, .slice A2 l2.length c2] w fun e w' => e = .returned (.tuple #[.slice none 0 0, .int .i64 1]) ∧ Below w.heap.size w w' := by
  have HV := Aside0.mk h
  have HR1 := Aside0.mk hr1
  have HR2 := Aside0.mk hr2
  have HC1 := Aside0.mk hc1
  have HC2 := Aside0.mk hc2
  clear h hr1 hr2 hc1 hc2
  go_enter Try.func15, Try.ntmps15
  go_wp2_with fail
  refine (weigh_valid.calls k a0 A1 c1 l1 A2 c2 l2 false w HR1.out HC1.out HR2.out HC2.out HV.out).mono ?_
  rintro e w' ⟨rfl, hb⟩
  go_wp2_with fail
  go_ret2
  exact ⟨rfl, hb⟩

set_option maxRecDepth 100000 in
set_option maxHeartbeats 4000000 in
theorem from_good (kv k : Nat) (n : Nat) (A1 : Option Addr) (c1 : Nat) (l1 : List S41) (A2 : Option Addr) (c2 : Nat) (l2 : List Int) (b : List Int) (w : World) (hn : n ≤ 1048576) (hl1 : l1.length < 5864062014805) (hr1 : Kd.C k41 w A1 l1.length l1) (hc1 : l1.length ≤ c1) (hr2 : Kd.C (Kd.int .i64) w A2 l2.length l2) (hc2 : l2.length ≤ c2) (h : weigh_valid.f kv n l1 l2 = some true)
    (hE : ∀ e ∈ l1, 0 ≤ e.f0 ∧ e.f0 < n ∧ 0 ≤ e.f1 ∧ e.f1 < n) (hR : ∀ r ∈ l2, 0 ≤ r ∧ r < n)
    (hrun : run (l1.foldl intoStep (List.replicate n [])) k (l2.foldl startStep (List.replicate n 9, [])).1 (l2.foldl startStep (List.replicate n 9, [])).2 = some b) :
    Calls Try.prog 15 #[.int .i64 n, .slice A1 l1.length c1, .slice A2 l2.length c2] w fun e w' => ∃ g, e = .returned (.tuple #[.slice (some ⟨g, 0, none⟩) n n, .int .i64 0]) ∧ w.heap.size ≤ g ∧ RowI w' g b ∧ Below w.heap.size w w' := by
  have HV := Aside0.mk h
  have HR1 := Aside0.mk hr1
  have HR2 := Aside0.mk hr2
  have HC1 := Aside0.mk hc1
  have HC2 := Aside0.mk hc2
  have HRun := Aside0.mk hrun
  have HE := Aside0.mk hE
  have HRt := Aside0.mk hR
  clear h hr1 hr2 hc1 hc2 hrun hE hR
  have hmm := @run_makeMap Try.prog
  have hmk2 := print_make_of (P := Try.prog) 55 28 (.slice none 0 0) 24 Try.underlying55 info28 rfl (by decide) n (by omega)
  have hmk := print_make (P := Try.prog) 29 3 .i64 8 Try.underlying29 info3 (by decide) n (by omega)
  go_enter Try.func15, Try.ntmps15
  go_wp2_with fail
  refine (weigh_valid.calls kv n A1 c1 l1 A2 c2 l2 true w HR1.out HC1.out HR2.out HC2.out HV.out).mono ?_
  rintro e w1 ⟨rfl, hb⟩
  have HB1 := Aside0.mk hb
  clear hb
  go_wp2_with fail
  have HS8 := Aside0.mk (show w.heap.size ≤ w1.heap.size from HB1.out.size)
  have HR8 : Aside0 (RowI (w1.alloc (Obj.cells (madeCells #[Value.int IntKind.i64 0] n) 3)) w1.heap.size (nines n 0)) := ⟨made_row _ _⟩
  have HBA := Aside0.mk (HB1.out.alloc HB1.out.size (Obj.cells (madeCells #[Value.int IntKind.i64 0] n) 3))
  go_loopw [30] (fun i wr => ∃ j : Nat, j ≤ n ∧ i = .int .i64 j ∧ Aside0 (RowI wr w1.heap.size (nines n j)) ∧ Aside0 (Below w.heap.size w wr) ∧ Aside0 (w1.heap.size < wr.heap.size)) (fun i _ => n - (intOf i).toNat)
  case atStart => exact ⟨0, Nat.zero_le _, rfl, HR8, HBA, ⟨by simp⟩⟩
  case round =>
    obtain ⟨j, hj, rfl, HRj, HBj, HLj⟩ := hrel
    by_cases hlt : j < n
    · have hce := RowI.cell HRj.out j (by omega) (by rw [nines_len n j hj]; omega)
      rw [Int.toNat_natCast] at hce
      have hfr := blk_frozen HRj.out j
      have h0 : (0 : Int) ≤ j := by omega
      have h1 : (j : Int) < n := by omega
      go_wp2
      go_roundw
      case rel => exact ⟨j + 1, by omega, by go_num, ⟨nines_step n j hlt ▸ RowI.set HRj.out j 9⟩, ⟨HBj.out.setCell HS8.out _⟩, ⟨by simp [World.setCell]; exact HLj.out⟩⟩
      case measure => simp [intOf]; omega
    · obtain rfl : j = n := by omega
      clear HR8 HBA hlt hj
      rw [nines_all] at HRj
      have HI : Aside0 (IntoAt (wr.alloc (Obj.cells (madeCells #[Value.slice none 0 0] j) 28)) w.heap.size wr.heap.size (List.replicate j [])) := ⟨into_made _ _ _⟩
      have HBA := Aside0.mk (HBj.out.alloc HBj.out.size (Obj.cells (madeCells #[Value.slice none 0 0] j) 28))
      have HRA : Aside0 (RowI (wr.alloc (Obj.cells (madeCells #[Value.slice none 0 0] j) 28)) w1.heap.size (List.replicate j 9)) := ⟨blk_alloc HRj.out _⟩
      have HSA : Aside0 (wr.heap.size < (wr.alloc (Obj.cells (madeCells #[Value.slice none 0 0] j) 28)).heap.size) := ⟨by simp⟩
      go_wp2_with fail
      obtain ⟨g10, hg10⟩ : ∃ g, g = wr.heap.size := ⟨_, rfl⟩
      obtain ⟨g8, hg8⟩ : ∃ g, g = w1.heap.size := ⟨_, rfl⟩
      rw [← hg10, ← hg8]
      rw [← hg10] at HI HSA
      rw [← hg8] at HRA
      rw [← hg8] at HLj HS8
      rw [← hg10] at HLj
      have HS10 : Aside0 (w.heap.size ≤ g10) := ⟨by have := HLj.out; have := HS8.out; omega⟩
      clear hg10 hg8 HRj HBj
      go_loopw [41] (fun i wr => ∃ q : Nat, q ≤ l1.length ∧ i = .int .i64 q ∧ Aside0 (RowI wr g8 (List.replicate j 9)) ∧ Aside0 (IntoAt wr w.heap.size g10 ((l1.take q).foldl intoStep (List.replicate j []))) ∧ Aside0 (Below w.heap.size w wr) ∧ Aside0 (g10 < wr.heap.size)) (fun i _ => l1.length - (intOf i).toNat)
      case atStart => exact ⟨0, Nat.zero_le _, rfl, HRA, HI, HBA, HSA⟩
      case round =>
        clear HRA HI HBA HSA
        obtain ⟨q, hq, rfl, HRq, HIq, HBq, HLq⟩ := hrel
        by_cases hlt : q < l1.length
        · have hm : l1.length ≤ 9223372036854775807 := Kd.C_max HR1.out
          obtain ⟨ad, e0, hx0, hx1, hx2⟩ := at_T41 HR1.out (q : Int) (by omega) (by omega)
          cases e0
          simp only [Int.toNat_natCast] at hx0 hx1 hx2
          replace hx0 := (HBq.out.cell (World.block_lt_of_cell? w _ hx0)).trans hx0
          replace hx1 := (HBq.out.cell (World.block_lt_of_cell? w _ hx1)).trans hx1
          replace hx2 := (HBq.out.cell (World.block_lt_of_cell? w _ hx2)).trans hx2
          have h0 : (0 : Int) ≤ q := by omega
          have h1 : (q : Int) < l1.length := by omega
          obtain ⟨e, he⟩ : ∃ e, e = rd_T41 l1 (q : Int) := ⟨_, rfl⟩
          have hmem : e ∈ l1 := by rw [he]; exact rd_mem l1 q hlt
          have HStep : Aside0 ((l1.take (q + 1)).foldl intoStep (List.replicate j []) = intoStep ((l1.take q).foldl intoStep (List.replicate j [])) e) := ⟨by rw [take_next l1 q hlt, List.foldl_append, ← he]; rfl⟩
          rw [← he] at hx0 hx1 hx2
          have HEb := Aside0.mk he
          clear he
          obtain ⟨he0, he1, _, _⟩ := HE.out e hmem
          go_wp2_with fail
          have HGR := Aside0.mk (heap_alloc_new wr (Obj.cells #[Value.int IntKind.i64 e.f0, Value.int IntKind.i64 e.f1, Value.int IntKind.i64 e.f2] 41))
          have HAl := Aside0.mk (below_alloc (Below.refl wr.heap.size wr) (Obj.cells #[Value.int IntKind.i64 e.f0, Value.int IntKind.i64 e.f1, Value.int IntKind.i64 e.f2] 41))
          have HRE : Aside0 (RowI (wr.alloc (Obj.cells #[Value.int IntKind.i64 e.f0, Value.int IntKind.i64 e.f1, Value.int IntKind.i64 e.f2] 41)) g8 (List.replicate j 9)) := ⟨blk_alloc HRq.out _⟩
          have HBE := Aside0.mk (HBq.out.alloc HBq.out.size (Obj.cells #[Value.int IntKind.i64 e.f0, Value.int IntKind.i64 e.f1, Value.int IntKind.i64 e.f2] 41))
          have HSE : Aside0 ((wr.alloc (Obj.cells #[Value.int IntKind.i64 e.f0, Value.int IntKind.i64 e.f1, Value.int IntKind.i64 e.f2] 41)).heap.size = wr.heap.size + 1) := ⟨by simp⟩
          generalize (wr.alloc (Obj.cells #[Value.int IntKind.i64 e.f0, Value.int IntKind.i64 e.f1, Value.int IntKind.i64 e.f2] 41)) = wE at *
          obtain ⟨d, hd⟩ : ∃ d, d = e.f0.toNat := ⟨_, rfl⟩
          obtain ⟨I, hI⟩ : ∃ I, I = (l1.take q).foldl intoStep (List.replicate j []) := ⟨_, rfl⟩
          have HIr := HIq
          rw [← hI] at HStep HIr
          have hIl : I.length = j := by rw [hI, into_len]; simp
          have hcast : e.f0 = (d : Int) := by omega
          obtain ⟨vs, hvl, hvb', hvo', hvn⟩ := HIr.out
          have hvb := blk_below hvb' HAl.out
          have hvo : ∀ (i : Nat) (es : List S41) (v : Value), I[i]? = some es → vs[i]? = some v → wE.ownsRow w.heap.size 41 3 v es.length (edgeCells es) := fun i es v h1 h2 => pw_own_below (hvo' i es v h1 h2) HAl.out
          have hdv : d < vs.length := by omega
          obtain ⟨v, hv⟩ : ∃ v, vs[d]? = some v := ⟨_, List.getElem?_eq_getElem hdv⟩
          obtain ⟨es, hIe⟩ : ∃ es, I[d]? = some es := ⟨_, List.getElem?_eq_getElem (by omega)⟩
          have HIe := Aside0.mk hIe
          have hown := hvo d _ v hIe hv
          obtain ⟨Av, cv, rfl⟩ := own_slice hown
          have hc10 : wE.cell? ⟨g10, d, none⟩ = some (.slice Av es.length cv) := by rw [blk_cell hvb]; simpa using hv
          have hcs := fun k => blk_cell HGR.out k
          have hce0 : wE.cell? ⟨wr.heap.size, 0, none⟩ = some (.int .i64 (d : Int)) := by rw [hcs, ← hcast]; rfl
          have hce1 : wE.cell? ⟨wr.heap.size, 1, none⟩ = some (.int .i64 e.f1) := by rw [hcs]; rfl
          have hce2 : wE.cell? ⟨wr.heap.size, 2, none⟩ = some (.int .i64 e.f2) := by rw [hcs]; rfl
          have hn10 : (Value.slice Av es.length cv).ownBlock ≠ some g10 := (own_ne hown hvb (by decide)).symm
          have hn12 : (Value.slice Av es.length cv).ownBlock ≠ some wr.heap.size := by
            intro hk
            have := own_lt (hvo' d es _ hIe hv) _ hk
            omega
          have hli : es.length < 5864062014805 := by have h := into_row_len (l1.take q) (List.replicate j []) 0 (by simp) es (by rw [← hI]; exact List.mem_of_getElem? hIe); have : (l1.take q).length ≤ q := List.length_take_le _ _; omega
          have hd0 : (0 : Int) ≤ d := by omega
          have hd1 : (d : Int) < j := by omega
          have HSz := Aside0.mk (HSE.out)
          have HV0 := Aside0.mk hv
          have HPut := Aside0.mk (fun (wA w2 : World) (gg cap : Nat) (hb : Below wE.heap.size wE wA) (hgrow : wA.grownBy w2 (Value.slice Av es.length cv).ownBlock) (hown : w2.ownsRow w.heap.size 41 3 (.slice (some ⟨gg, 0, none⟩) (es.length + 1) cap) (es.length + 1) (edgeCells es ++ [.int .i64 (d : Int), .int .i64 e.f1, .int .i64 e.f2])) (hat : (Value.slice Av es.length cv).ownBlock = some gg ∨ gg = wE.heap.size + 1) => into_put (H := wE.heap.size + 1) hd.symm hIe hv hvl hvb hvo hvn hb hgrow (by rw [hcast]; exact hown) hat (by omega))
          have HN8 := Aside0.mk (own_ne hown HRE.out (by decide))
          have HN10 := Aside0.mk hn10
          have HN12 := Aside0.mk hn12
          have HVB := Aside0.mk hvb
          have hfz10 := blk_frozen hvb d
          clear HIe hIe hv hvo hvo' hvn hvb hvb' hcs hI hx0 hx1 hx2 he0 he1 hcast hd HSE HRq HIq HIr HBq
          obtain ⟨i0, hi0, hz0, hz1, hz2⟩ := info_parts info41
          refine start_ (n := 13) (S := fun w' => w'.cell? ⟨wr.heap.size, 0, none⟩ = some (.int .i64 (d : Int)) ∧ w'.cell? ⟨wr.heap.size, 1, none⟩ = some (.int .i64 e.f1) ∧ w'.cell? ⟨wr.heap.size, 2, none⟩ = some (.int .i64 e.f2) ∧ w'.cell? ⟨g10, d, none⟩ = some (.slice Av es.length cv)) (ds := [12]) #[false, false, false, false, false, false, false, false, false, false, false, false, false] (by kernel_rfl) rfl rfl ⟨hce0, hce1, hce2, hc10⟩ (fun hHeld => ?_)
          refine with_tabW TAB_15.tab13 TAB_15.bits13 (fun HT_ HW_ => ?_)
          refine pure_ (i := 0) (N := some 45) (v := ?_) (a' := ?_) #[true, false, false, false, false, false, false, false, false, false, false, false, false] rfl rfl (any_of HT_.out (by kernel_rfl)) (fun _ _ _ h => h) (Or.inl ⟨by rfl, ?_⟩) ?_ ?_
          rotate_left
          · intro w'
            go_simp
            with_reducible rfl
          rotate_left
          · simp only [Act.put, List.setIfInBounds_toArray, List.set_cons_zero, List.set_cons_succ, i64_w, i32_w]
            rfl
          refine pure_ (i := 1) (N := some 46) (v := ?_) (a' := ?_) #[true, true, false, false, false, false, false, false, false, false, false, false, false] rfl rfl (any_of HT_.out (by kernel_rfl)) (fun _ _ _ h => h) (Or.inl ⟨by rfl, ?_⟩) ?_ ?_
          rotate_left
          · intro w'
            go_simp
            with_reducible rfl
          rotate_left
          · simp only [Act.put, List.setIfInBounds_toArray, List.set_cons_zero, List.set_cons_succ, i64_w, i32_w]
            rfl
          refine pure_ (i := 3) (N := some 48) (v := ?_) (a' := ?_) #[true, true, false, true, false, false, false, false, false, false, false, false, false] rfl rfl (any_of HT_.out (by kernel_rfl)) (fun _ _ _ h => h) (Or.inl ⟨by rfl, ?_⟩) ?_ ?_
          rotate_left
          · intro w'
            go_simp
            with_reducible rfl
          rotate_left
          · simp only [Act.put, List.setIfInBounds_toArray, List.set_cons_zero, List.set_cons_succ, i64_w, i32_w]
            rfl
          refine pure_ (i := 4) (N := some 49) (v := ?_) (a' := ?_) #[true, true, false, true, true, false, false, false, false, false, false, false, false] rfl rfl (any_of HT_.out (by kernel_rfl)) (fun _ _ _ h => h) (Or.inl ⟨by rfl, ?_⟩) ?_ ?_
          rotate_left
          · intro w'
            go_simp
            with_reducible rfl
          rotate_left
          · simp only [Act.put, List.setIfInBounds_toArray, List.set_cons_zero, List.set_cons_succ, i64_w, i32_w]
            rfl
          refine take_ (i := 2) (N := some 47) (v := ?_) (a' := ?_) #[true, true, true, true, true, false, false, false, false, false, false, false, false] rfl rfl (take_ofW HT_.out HW_.out (by kernel_rfl)) (fun _ _ _ h => h) (Or.inl ⟨by rfl, ?_⟩) hHeld ?_ ?_
          rotate_left
          · rintro w' ⟨s0, s1, s2, s3⟩
            go_simp
            with_reducible rfl
          rotate_left
          · simp only [Act.put, List.setIfInBounds_toArray, List.set_cons_zero, List.set_cons_succ, i64_w, i32_w]
            rfl
          refine take_ (i := 5) (N := some 50) (v := ?_) (a' := ?_) #[true, true, true, true, true, true, false, false, false, false, false, false, false] rfl rfl (take_ofW HT_.out HW_.out (by kernel_rfl)) (fun _ _ _ h => h) (Or.inl ⟨by rfl, ?_⟩) hHeld ?_ ?_
          rotate_left
          · rintro w' ⟨s0, s1, s2, s3⟩
            go_simp
            with_reducible rfl
          rotate_left
          · simp only [Act.put, List.setIfInBounds_toArray, List.set_cons_zero, List.set_cons_succ, i64_w, i32_w]
            rfl
          refine pure_ (i := 6) (N := some 51) (v := ?_) (a' := ?_) #[true, true, true, true, true, true, true, false, false, false, false, false, false] rfl rfl (any_of HT_.out (by kernel_rfl)) (fun _ _ _ h => h) (Or.inl ⟨by rfl, ?_⟩) ?_ ?_
          rotate_left
          · intro w'
            go_simp
            with_reducible rfl
          rotate_left
          · simp only [Act.put, List.setIfInBounds_toArray, List.set_cons_zero, List.set_cons_succ, i64_w, i32_w]
            rfl
          refine take_ (i := 7) (N := some 52) (v := ?_) (a' := ?_) #[true, true, true, true, true, true, true, true, false, false, false, false, false] rfl rfl (take_ofW HT_.out HW_.out (by kernel_rfl)) (fun _ _ _ h => h) (Or.inl ⟨by rfl, ?_⟩) hHeld ?_ ?_
          rotate_left
          · rintro w' ⟨s0, s1, s2, s3⟩
            go_simp
            with_reducible rfl
          rotate_left
          · simp only [Act.put, List.setIfInBounds_toArray, List.set_cons_zero, List.set_cons_succ, i64_w, i32_w]
            rfl
          refine take_ (i := 8) (N := some 53) (v := ?_) (a' := ?_) #[true, true, true, true, true, true, true, true, true, false, false, false, false] rfl rfl (take_ofW HT_.out HW_.out (by kernel_rfl)) (fun _ _ _ h => h) (Or.inl ⟨by rfl, ?_⟩) hHeld ?_ ?_
          rotate_left
          · rintro w' ⟨s0, s1, s2, s3⟩
            go_simp
            with_reducible rfl
          rotate_left
          · simp only [Act.put, List.setIfInBounds_toArray, List.set_cons_zero, List.set_cons_succ, i64_w, i32_w]
            rfl
          refine one_ (i := 9) (N := some 54) #[true, true, true, true, true, true, true, true, true, true, false, false, false] rfl rfl (one_of HT_.out (by kernel_rfl)) (by decide) (fun K hK => ?_)
          refine value_ (w1 := ?_) (v := ?_) (by rfl) rfl ?_ ?_
          rotate_left 2
          · go_simp
            constructor
            · rfl
            · rfl
          refine hK.out _ _ ⟨(cell_keep hce0 _), (cell_keep hce1 _), (cell_keep hce2 _), (cell_keep hc10 _)⟩ (fun hHeld => ?_)
          clear hK K
          refine norm_ (a' := ?_) ?_ ?_
          rotate_left
          · show Act.put _ (some 54) _ = _
            simp only [Act.put, List.setIfInBounds_toArray, List.set_cons_zero, List.set_cons_succ, i64_w, i32_w]
            rfl
          refine one_ (i := 10) (N := some 55) #[true, true, true, true, true, true, true, true, true, true, true, false, false] rfl rfl (one_of HT_.out (by kernel_rfl)) (by decide) (fun K hK => ?_)
          refine step_append_lies _ (by rfl) _ _ _ (by rfl) w.heap.size 41 i0 _ 3 24 Try.underlying28 hi0 hz0 hz1 hz2 rfl (by omega) (.slice Av es.length cv) es.length (edgeCells es) (by rfl) (hown.drew.alloc _) ⟨wE.heap.size, 0, none⟩ 1 1 [.int .i64 (d : Int), .int .i64 e.f1, .int .i64 e.f2] (by rfl) (by rfl) (World.news_of_block (cs := #[.int .i64 (d : Int), .int .i64 e.f1, .int .i64 e.f2]) (t := 41) (fr := (0, 0)) (heap_alloc_new _ _)) (by simp [Value.oneCell']) (by omega) ?b1 ?b2 ?b3 (wE.heap.size + 1) (by simp) ?_
          (case b1 => unfold maxLen; omega)
          (case b2 => omega)
          (case b3 => have := HBE.out.size; simp; omega)
          intro gg cap w2 hown1 hgrow hat hlt2
          have HO2 := Aside0.mk hown1
          have HG2 := Aside0.mk hgrow
          have HA2 := Aside0.mk hat
          clear hown1 hgrow hat
          have hs10 := (HG2.out.cell_far _ (by simp; have := HSz.out; have := HLq.out; omega) (Ne.symm hn10)).trans (cell_keep hc10 _)
          have hfs10 := (HG2.out.frozen_far ⟨g10, d, none⟩ (by simp; have := HSz.out; have := HLq.out; omega) (Ne.symm hn10)).trans (fro_keep hfz10 HVB.out _)
          refine hK.out _ _ ⟨(HG2.out.cell_far _ (by simp; have := HSz.out; omega) (Ne.symm hn12)).trans (cell_keep hce0 _), (HG2.out.cell_far _ (by simp; have := HSz.out; omega) (Ne.symm hn12)).trans (cell_keep hce1 _), (HG2.out.cell_far _ (by simp; have := HSz.out; omega) (Ne.symm hn12)).trans (cell_keep hce2 _), hs10⟩ (fun hHeld => ?_)
          clear hK K
          refine norm_ (a' := ?_) ?_ ?_
          rotate_left
          · show Act.put _ (some 55) _ = _
            simp only [Act.put, List.setIfInBounds_toArray, List.set_cons_zero, List.set_cons_succ, i64_w, i32_w]
            rfl
          refine pure_ (i := 11) (N := some 56) (v := ?_) (a' := ?_) #[true, true, true, true, true, true, true, true, true, true, true, true, false] rfl rfl (any_of HT_.out (by kernel_rfl)) (fun _ _ _ h => h) (Or.inl ⟨by rfl, ?_⟩) ?_ ?_
          rotate_left
          · intro w'
            go_simp
            with_reducible rfl
          rotate_left
          · simp only [Act.put, List.setIfInBounds_toArray, List.set_cons_zero, List.set_cons_succ, i64_w, i32_w]
            rfl
          refine last_ (i := 12) (N := none) #[true, true, true, true, true, true, true, true, true, true, true, true, true] rfl rfl (one_of HT_.out (by kernel_rfl)) (by decide) (fun K hK => ?_)
          refine skip_ (w1 := ?_) (by rfl) rfl ?_ ?_
          rotate_left
          · go_simp
            rfl
          refine hK.out _ _ ?_
          clear hK K
          refine done_ (done_of HT_.out (by kernel_rfl)) ?_

          have HP := Aside0.mk (HPut.out _ w2 gg cap (below_alloc (below_drew (Below.refl wE.heap.size wE)) _) HG2.out HO2.out HA2.out)
          have HR2' : Aside0 (RowI w2 g8 (List.replicate j 9)) := ⟨blk_grown (blk_alloc (show wE.drew.heap[g8]? = _ from HRE.out) _) HG2.out HN8.out⟩
          have HB2' := Aside0.mk (Below.grown (HBE.out.drew.alloc (by have := HBE.out.size; simpa using this) (Obj.cells #[Value.int IntKind.i64 (d : Int), Value.int IntKind.i64 e.f1, Value.int IntKind.i64 e.f2] 41)) HG2.out (by have := HBE.out.size; simp; omega) (fun k hk => own_base hown k hk))
          have HS2' := Aside0.mk (show g10 < w2.heap.size by have h1 := HG2.out.size; have h2 := HSz.out; have h3 := HLq.out; simp at h1; omega)
          clear HPut HG2 HO2 HA2 HVB hs10 hfs10 hfz10 hce0 hce1 hce2 hc10 hown
          go_wp2
          go_roundw
          case rel => exact ⟨q + 1, by omega, by go_num, ⟨blk_far HR2'.out (by have := HLj.out; simp; omega) _⟩, ⟨by rw [HStep.out]; exact HP.out⟩, ⟨HB2'.out.setCell HS10.out _⟩, ⟨by simp [World.setCell]; exact HS2'.out⟩⟩
          case measure => simp [intOf]; omega
        · obtain rfl : q = l1.length := by omega
          rw [List.take_of_length_le (Nat.le_refl _)] at HIq
          clear hlt hq
          have HOn : Aside0 (OnceAt ((wr.alloc (Obj.map #[] 0)).alloc (Obj.cells #[Value.slice none 0 0, Value.map (some wr.heap.size)] 59)) wr.heap.size (wr.heap.size + 1) wr.heap.size []) := ⟨once_made wr⟩
          have HKp : Aside0 (Below wr.heap.size wr ((wr.alloc (Obj.map #[] 0)).alloc (Obj.cells #[Value.slice none 0 0, Value.map (some wr.heap.size)] 59))) := ⟨((Below.refl _ _).alloc (Nat.le_refl _) _).alloc (by simp) _⟩
          have HBn := Aside0.mk ((HBq.out.alloc HBq.out.size (Obj.map #[] 0)).alloc (by have := HBq.out.size; simp; omega) (Obj.cells #[Value.slice none 0 0, Value.map (some wr.heap.size)] 59))
          go_wp2_with fail
          obtain ⟨wB, hwB⟩ : ∃ x, x = wr := ⟨_, rfl⟩
          rw [← hwB] at HOn HKp HBn HRq HIq HBq HLq ⊢
          clear hwB
          go_loopw [63] (fun i wr => ∃ q : Nat, q ≤ l2.length ∧ i = .int .i64 q ∧ Aside0 (RowI wr g8 ((l2.take q).foldl startStep (List.replicate j 9, [])).1) ∧ Aside0 (OnceAt wr wB.heap.size (wB.heap.size + 1) wB.heap.size ((l2.take q).foldl startStep (List.replicate j 9, [])).2) ∧ Aside0 (GoodQ j ((l2.take q).foldl startStep (List.replicate j 9, [])).2) ∧ Aside0 (Below w.heap.size w wr) ∧ Aside0 (∀ k, k < wB.heap.size → k ≠ g8 → wr.heap[k]? = wB.heap[k]?) ∧ Aside0 (wB.heap.size ≤ wr.heap.size)) (fun i _ => l2.length - (intOf i).toNat)
          case atStart => exact ⟨0, Nat.zero_le _, rfl, ⟨HRq.out.below HKp.out (by have := HLj.out; have := HLq.out; omega)⟩, HOn, ⟨⟨by simp, by simp⟩⟩, HBn, ⟨fun k hk _ => HKp.out.block k hk⟩, ⟨HKp.out.size⟩⟩
          case round =>
            clear HOn HKp HBn
            obtain ⟨q, hq, rfl, HRr, HOr, HGr, HBr, HKr, HSr⟩ := hrel
            by_cases hlt : q < l2.length
            · have hm : l2.length ≤ 9223372036854775807 := Kd.C_max HR2.out
              obtain ⟨ad, e0, hx0⟩ := (Kd.reads_of_C (d := (0 : Int)) HR2.out).at_ (q : Int) (by omega) (by omega)
              cases e0
              simp only [Int.toNat_natCast] at hx0
              replace hx0 := (HBr.out.cell (World.block_lt_of_cell? w _ hx0)).trans hx0
              obtain ⟨r, hr⟩ : ∃ r, r = rdOf 0 l2 (q : Int) := ⟨_, rfl⟩
              rw [← hr] at hx0
              have HSt : Aside0 ((l2.take (q + 1)).foldl startStep (List.replicate j 9, []) = startStep ((l2.take q).foldl startStep (List.replicate j 9, [])) r) := ⟨by rw [take_next' l2 q hlt, List.foldl_append, ← hr]; rfl⟩
              have hrr := HRt.out r (by rw [hr]; exact rdOf_mem l2 q hlt)
              clear hr
              obtain ⟨hr0, hr1⟩ := hrr
              obtain ⟨st, hst⟩ : ∃ st, st = (l2.take q).foldl startStep (List.replicate j 9, []) := ⟨_, rfl⟩
              rw [← hst] at HRr HOr HGr HSt
              have hbl : st.1.length = j := by rw [hst, start_len]; simp
              have hce := RowI.cell HRr.out r hr0 (by omega)
              have hfr := blk_frozen HRr.out r.toNat
              have h0 : (0 : Int) ≤ q := by omega
              have h1 : (q : Int) < l2.length := by omega
              clear hst hbl
              have HSr8 : Aside0 (g8 < wB.heap.size) := ⟨by have := HLj.out; have := HLq.out; omega⟩
              go_wp2_with fail
              refine (add_any _ wB.heap.size (wB.heap.size + 1) wB.heap.size j st.2 r hr0 hr1 hn (HOr.out.far HSr8.out) HGr.out (by simp [World.setCell]; exact HSr.out)).mono ?_
              rintro e w2 ⟨rfl, ho2, hb2⟩
              have HO2 := Aside0.mk ho2
              have HB2 := Aside0.mk hb2
              clear ho2 hb2
              go_wp2_with fail
              go_roundw
              case rel => exact ⟨q + 1, by omega, by go_num, ⟨by rw [HSt.out]; exact RowI.below (RowI.set HRr.out r.toNat 0) HB2.out HSr8.out⟩, ⟨by rw [HSt.out]; exact HO2.out⟩, ⟨by rw [HSt.out]; exact HGr.out.add hr0 hr1⟩, ⟨(HBr.out.setCell HS8.out _).trans (HB2.out.mono HBq.out.size)⟩, ⟨fun k hk h8 => (HB2.out.block k hk).trans ((Below.heap_setCell _ _ _ _ (by simp; omega)).trans (HKr.out k hk h8))⟩, ⟨by have h1 := HB2.out.size; have h2 := HSr.out; simp [World.setCell] at h1; omega⟩⟩
              case measure => simp [intOf]; omega
            · obtain rfl : q = l2.length := by omega
              rw [List.take_of_length_le (Nat.le_refl _)] at HRr HOr HGr
              clear hlt hq
              obtain ⟨st, hst⟩ : ∃ st, st = l2.foldl startStep (List.replicate j 9, []) := ⟨_, rfl⟩
              rw [← hst] at HRr HOr HGr HRun
              have HSl : Aside0 (st.1.length = j) := ⟨by rw [hst, start_len]; simp⟩
              clear hst
              go_wp2_with fail
              refine (next_any _ wB.heap.size (wB.heap.size + 1) wB.heap.size j st.2 hn HOr.out HGr.out HSr.out).mono ?_
              rintro e w2 ⟨rfl, ho2, hb2⟩
              have HO2 := Aside0.mk ho2
              have HB2 := Aside0.mk hb2
              clear ho2 hb2
              go_wp2_with fail
              have HSr8 : Aside0 (g8 < wB.heap.size) := ⟨by have := HLj.out; have := HLq.out; omega⟩
              have HR0 : Aside0 (RowI w2 g8 st.1) := ⟨HRr.out.below HB2.out HSr8.out⟩
              have HBB : Aside0 (Below w.heap.size w w2) := ⟨HBr.out.trans (HB2.out.mono HBq.out.size)⟩
              have HKK : Aside0 (∀ k, k < wB.heap.size → k ≠ g8 → w2.heap[k]? = wB.heap[k]?) := ⟨fun k hk h8 => (HB2.out.block k hk).trans (HKr.out k hk h8)⟩
              have HSS : Aside0 (wB.heap.size ≤ w2.heap.size) := ⟨by have := HB2.out.size; have := HSr.out; omega⟩
              obtain ⟨k, rfl⟩ : ∃ k', k = k' + 1 := by
                cases k with
                | zero => exact absurd HRun.out (by simp [run])
                | succ k => exact ⟨k, rfl⟩
              go_loopg [16, 17] k (fun kq v16 v17 w' => ∃ (c L : List Int), v16 = .int .i64 (hdq L) ∧ v17 = .bool (okq L) ∧ Aside0 (RowI w' g8 c) ∧ Aside0 (c.length = j) ∧ Aside0 (OnceAt w' wB.heap.size (wB.heap.size + 1) wB.heap.size L.tail) ∧ Aside0 (GoodQ j L) ∧ Aside0 (Below w.heap.size w w') ∧ Aside0 (∀ k, k < wB.heap.size → k ≠ g8 → w'.heap[k]? = wB.heap[k]?) ∧ Aside0 (wB.heap.size ≤ w'.heap.size) ∧ Aside0 (run (l1.foldl intoStep (List.replicate j [])) (kq + 1) c L = some b))
              case atStart => exact ⟨st.1, st.2, rfl, rfl, HR0, HSl, HO2, HGr, HBB, HKK, HSS, HRun⟩
              case round =>
                clear HR0 HSl HO2 HGr HBB HKK HSS HRun HRr HOr HBr HKr HSr HB2
                obtain ⟨c, L, rfl, rfl, HRc, HLc, HOc, HGc, HBc, HKc, HSc, HRun⟩ := hrel
                cases L with
                | nil =>
                  have hcb : c = b := by have h := HRun.out; simpa [run] using h
                  simp only [hdq_nil, okq_nil]
                  go_wp2_with fail
                  go_ret2
                  exact ⟨g8, rfl, HS8.out, by rw [← hcb]; exact HRc.out, HBc.out⟩
                | cons a L =>
                  simp only [hdq_cons, okq_cons]
                  obtain ⟨ha0, ha1⟩ := HGc.out.mem a (by simp)
                  have HRn : Aside0 (run (l1.foldl intoStep (List.replicate j [])) gk (((l1.foldl intoStep (List.replicate j [])).getD a.toNat []).foldl (relaxStep a) (c, L)).1 (((l1.foldl intoStep (List.replicate j [])).getD a.toNat []).foldl (relaxStep a) (c, L)).2 = some b) := ⟨by have h := HRun.out; rwa [run] at h⟩
                  clear HRun
                  obtain ⟨vs, hvl, hvb, hvo, _⟩ := HIq.out
                  obtain ⟨I, hI⟩ : ∃ I, I = l1.foldl intoStep (List.replicate j []) := ⟨_, rfl⟩
                  have hIl : I.length = j := by rw [hI, into_len]; simp
                  rw [← hI] at HRn hvl hvo
                  have haI : a.toNat < I.length := by omega
                  obtain ⟨es, hes⟩ : ∃ es, I[a.toNat]? = some es := ⟨_, List.getElem?_eq_getElem haI⟩
                  have hesD : I.getD a.toNat [] = es := by rw [List.getD_eq_getElem?_getD, hes]; rfl
                  rw [hesD] at HRn
                  obtain ⟨v, hv⟩ : ∃ v, vs[a.toNat]? = some v := ⟨_, List.getElem?_eq_getElem (by omega)⟩
                  have hown := hvo _ _ _ hes hv
                  obtain ⟨Av, cv, rfl⟩ := own_slice hown
                  have hcB : wB.cell? ⟨g10, a.toNat, none⟩ = some (.slice Av es.length cv) := by rw [blk_cell hvb]; simpa using hv
                  have hcA : wr.cell? ⟨g10, a.toNat, none⟩ = some (.slice Av es.length cv) := (World.cell?_of_block (w := wB) (HKc.out g10 HLq.out (by have := HLj.out; omega))).trans hcB
                  have HOw := Aside0.mk hown
                  have HEs : Aside0 (∀ e ∈ es, 0 ≤ e.f1 ∧ e.f1 < j) := ⟨fun e he => by
                    have h := into_mem l1 (List.replicate j []) (· ∈ l1) (by simp) (fun e he => he) es (by rw [← hI]; exact List.mem_of_getElem? hes) e he
                    exact ⟨(HE.out e h).2.2.1, (HE.out e h).2.2.2⟩⟩
                  have hel : es.length ≤ 9223372036854775807 := by
                    rcases hown.2 with ⟨_, h1⟩ | ⟨g', cap', cur, he, _, _, h1, h2, _⟩
                    · omega
                    · simp only [maxLen] at h2
                      omega
                  have HI := Aside0.mk hI
                  clear hvl hvb hvo hI hIl haI hes hesD hv hown hcB
                  go_wp2_with fail
                  clear hcA
                  obtain ⟨wo, hwo⟩ : ∃ wo : World, wo = wr := ⟨_, rfl⟩
                  rw [← hwo] at HRc HOc HBc HKc HSc ⊢
                  clear hwo
                  go_loopw [90] (fun i wr => ∃ q : Nat, q ≤ es.length ∧ i = .int .i64 q ∧ Aside0 (RowI wr g8 ((es.take q).foldl (relaxStep a) (c, L)).1) ∧ Aside0 (OnceAt wr wB.heap.size (wB.heap.size + 1) wB.heap.size ((es.take q).foldl (relaxStep a) (c, L)).2) ∧ Aside0 (GoodQ j ((es.take q).foldl (relaxStep a) (c, L)).2) ∧ Aside0 (Below w.heap.size w wr) ∧ Aside0 (∀ k, k < wB.heap.size → k ≠ g8 → wr.heap[k]? = wB.heap[k]?) ∧ Aside0 (wB.heap.size ≤ wr.heap.size)) (fun i _ => es.length - (intOf i).toNat)
                  case atStart => exact ⟨0, Nat.zero_le _, rfl, HRc, HOc, ⟨⟨(List.nodup_cons.1 HGc.out.nd).2, fun x hx => HGc.out.mem x (List.mem_cons_of_mem _ hx)⟩⟩, HBc, HKc, HSc⟩
                  case round =>
                    clear HRc HOc HBc HKc HSc
                    obtain ⟨q, hq, rfl, HRr, HOr, HGr, HBr, HKr, HSr⟩ := hrel
                    by_cases hlt : q < es.length
                    · obtain ⟨ge, ce, cells, hve, hbe, hx0, hx1, hx2⟩ := edge_read HOw.out q hlt
                      injection hve with hve1 hve2 hve3
                      subst hve1
                      have hge8 : ge ≠ g8 := blk_ne hbe HRq.out (by decide)
                      have hgeL := blk_lt hbe
                      have hblkE := HKr.out ge hgeL hge8
                      replace hx0 := (World.cell?_of_block (w := wB) (w' := wr) (a := ⟨ge, q * 3, none⟩) hblkE).trans hx0
                      replace hx1 := (World.cell?_of_block (w := wB) (w' := wr) (a := ⟨ge, q * 3 + 1, none⟩) hblkE).trans hx1
                      replace hx2 := (World.cell?_of_block (w := wB) (w' := wr) (a := ⟨ge, q * 3 + 2, none⟩) hblkE).trans hx2
                      obtain ⟨e, he⟩ : ∃ e, e = rd_T41 es (q : Int) := ⟨_, rfl⟩
                      have HSt : Aside0 ((es.take (q + 1)).foldl (relaxStep a) (c, L) = relaxStep a ((es.take q).foldl (relaxStep a) (c, L)) e) := ⟨by rw [take_next es q hlt, List.foldl_append, ← he]; rfl⟩
                      have hee := HEs.out e (by rw [he]; exact rd_mem es q hlt)
                      rw [← he] at hx0 hx1 hx2
                      clear he hve2 hve3 hblkE hbe
                      obtain ⟨he0, he1⟩ := hee
                      obtain ⟨st, hst⟩ : ∃ st, st = (es.take q).foldl (relaxStep a) (c, L) := ⟨_, rfl⟩
                      rw [← hst] at HRr HOr HGr HSt
                      have HLs : Aside0 (st.1.length = j) := ⟨by rw [hst, relax_len]; exact HLc.out⟩
                      clear hst
                      have h0 : (0 : Int) ≤ q := by omega
                      have h1 : (q : Int) < es.length := by omega
                      go_wp2_with fail
                      have HGR := Aside0.mk (heap_alloc_new wr (Obj.cells #[Value.int IntKind.i64 e.f0, Value.int IntKind.i64 e.f1, Value.int IntKind.i64 e.f2] 41))
                      have HAl := Aside0.mk (below_alloc (Below.refl wr.heap.size wr) (Obj.cells #[Value.int IntKind.i64 e.f0, Value.int IntKind.i64 e.f1, Value.int IntKind.i64 e.f2] 41))
                      have HSE : Aside0 ((wr.alloc (Obj.cells #[Value.int IntKind.i64 e.f0, Value.int IntKind.i64 e.f1, Value.int IntKind.i64 e.f2] 41)).heap.size = wr.heap.size + 1) := ⟨by simp⟩
                      have HBE := Aside0.mk (HBr.out.alloc HBr.out.size (Obj.cells #[Value.int IntKind.i64 e.f0, Value.int IntKind.i64 e.f1, Value.int IntKind.i64 e.f2] 41))
                      generalize (wr.alloc (Obj.cells #[Value.int IntKind.i64 e.f0, Value.int IntKind.i64 e.f1, Value.int IntKind.i64 e.f2] 41)) = wE at *
                      have HRE : Aside0 (RowI wE g8 st.1) := ⟨HRr.out.below HAl.out (blk_lt HRr.out)⟩
                      have HOE : Aside0 (OnceAt wE wB.heap.size (wB.heap.size + 1) wB.heap.size st.2) := ⟨HOr.out.below HAl.out⟩
                      have HKE : Aside0 (∀ k, k < wB.heap.size → k ≠ g8 → wE.heap[k]? = wB.heap[k]?) := ⟨fun k hk h8 => (HAl.out.block k (by have := HSr.out; omega)).trans (HKr.out k hk h8)⟩
                      have HSsE : Aside0 (wB.heap.size ≤ wE.heap.size) := ⟨by have := HSE.out; have := HSr.out; omega⟩
                      have hb8 := RowI.cell HRE.out a ha0 (by have := HLs.out; omega)
                      have hb9 := RowI.cell HRE.out e.f1 he0 (by have := HLs.out; omega)
                      have ht1 : wE.cell? ⟨wr.heap.size, 1, none⟩ = some (.int .i64 e.f1) := (blk_cell HGR.out 1).trans rfl
                      have ht2 : wE.cell? ⟨wr.heap.size, 2, none⟩ = some (.int .i64 e.f2) := (blk_cell HGR.out 2).trans rfl
                      have hf8 := blk_frozen HRE.out e.f1.toNat
                      clear hx0 hx1 hx2 HSE HRr HOr HBr HKr
                      obtain ⟨d, hdd⟩ : ∃ d, d = plus (rd st.1 a) e.f2 := ⟨_, rfl⟩
                      have HPl : Aside0 (∀ W, Calls Try.prog 17 #[.int .i64 (rd st.1 a), .int .i64 e.f2] W fun e w' => e = .returned (.int .i64 d) ∧ W = w') := ⟨fun W => by rw [hdd]; exact plus_any _ _ W⟩
                      have HDD := Aside0.mk hdd
                      clear hdd
                      obtain ⟨x, hxx⟩ : ∃ x, x = rd st.1 e.f1 := ⟨_, rfl⟩
                      rw [← hxx] at hb9
                      have HXX := Aside0.mk hxx
                      clear hxx
                      obtain ⟨y, hyy⟩ : ∃ y, y = rd st.1 a := ⟨_, rfl⟩
                      rw [← hyy] at hb8 HPl HDD
                      have HYY := Aside0.mk hyy
                      clear hyy
                      refine start_ (n := 8) (S := fun w' => w'.cell? ⟨g8, a.toNat, none⟩ = some (.int .i64 y) ∧ w'.cell? ⟨wr.heap.size, 2, none⟩ = some (.int .i64 e.f2)) (ds := []) #[false, false, false, false, false, false, false, false] (by kernel_rfl) rfl rfl ⟨hb8, ht2⟩ (fun hHeld => ?_)
                      refine with_tabW TAB_15.tab28 TAB_15.bits28 (fun HT_ HW_ => ?_)
                      refine pure_ (i := 0) (N := some 94) (v := ?_) (a' := ?_) #[true, false, false, false, false, false, false, false] rfl rfl (any_of HT_.out (by kernel_rfl)) (fun _ _ _ h => h) (Or.inl ⟨by rfl, ?_⟩) ?_ ?_
                      rotate_left
                      · intro w'
                        go_simp
                        with_reducible rfl
                      rotate_left
                      · simp only [Act.put, List.setIfInBounds_toArray, List.set_cons_zero, List.set_cons_succ, i64_w, i32_w]
                        rfl
                      refine pure_ (i := 1) (N := some 95) (v := ?_) (a' := ?_) #[true, true, false, false, false, false, false, false] rfl rfl (any_of HT_.out (by kernel_rfl)) (fun _ _ _ h => h) (Or.inl ⟨by rfl, ?_⟩) ?_ ?_
                      rotate_left
                      · intro w'
                        go_simp
                        with_reducible rfl
                      rotate_left
                      · simp only [Act.put, List.setIfInBounds_toArray, List.set_cons_zero, List.set_cons_succ, i64_w, i32_w]
                        rfl
                      refine pure_ (i := 2) (N := some 96) (v := ?_) (a' := ?_) #[true, true, true, false, false, false, false, false] rfl rfl (any_of HT_.out (by kernel_rfl)) (fun _ _ _ h => h) (Or.inl ⟨by rfl, ?_⟩) ?_ ?_
                      rotate_left
                      · intro w'
                        go_simp
                        with_reducible rfl
                      rotate_left
                      · simp only [Act.put, List.setIfInBounds_toArray, List.set_cons_zero, List.set_cons_succ, i64_w, i32_w]
                        rfl
                      refine pure_ (i := 4) (N := some 98) (v := ?_) (a' := ?_) #[true, true, true, false, true, false, false, false] rfl rfl (any_of HT_.out (by kernel_rfl)) (fun _ _ _ h => h) (Or.inl ⟨by rfl, ?_⟩) ?_ ?_
                      rotate_left
                      · intro w'
                        go_simp
                        with_reducible rfl
                      rotate_left
                      · simp only [Act.put, List.setIfInBounds_toArray, List.set_cons_zero, List.set_cons_succ, i64_w, i32_w]
                        rfl
                      refine take_ (i := 3) (N := some 97) (v := ?_) (a' := ?_) #[true, true, true, true, true, false, false, false] rfl rfl (take_ofW HT_.out HW_.out (by kernel_rfl)) (fun _ _ _ h => h) (Or.inl ⟨by rfl, ?_⟩) hHeld ?_ ?_
                      rotate_left
                      · rintro w' ⟨s0, s1⟩
                        go_simp
                        with_reducible rfl
                      rotate_left
                      · simp only [Act.put, List.setIfInBounds_toArray, List.set_cons_zero, List.set_cons_succ, i64_w, i32_w]
                        rfl
                      refine take_ (i := 5) (N := some 99) (v := ?_) (a' := ?_) #[true, true, true, true, true, true, false, false] rfl rfl (take_ofW HT_.out HW_.out (by kernel_rfl)) (fun _ _ _ h => h) (Or.inl ⟨by rfl, ?_⟩) hHeld ?_ ?_
                      rotate_left
                      · rintro w' ⟨s0, s1⟩
                        go_simp
                        with_reducible rfl
                      rotate_left
                      · simp only [Act.put, List.setIfInBounds_toArray, List.set_cons_zero, List.set_cons_succ, i64_w, i32_w]
                        rfl
                      refine one_ (i := 6) (N := some 100) #[true, true, true, true, true, true, true, false] rfl rfl (one_of HT_.out (by kernel_rfl)) (by decide) (fun K hK => ?_)
                      refine goes_ Try.func17 (by kernel_rfl) rfl #[.int .i64 y, .int .i64 e.f2] (by rfl) rfl rfl (by simp only [List.map_toArray, List.map_cons, List.map_nil]; rfl) ?_
                      with_reducible refine (HPl.out _).mono ?_
                      rintro e1 w1 ⟨rfl, rfl⟩
                      refine ⟨_, rfl, ?_⟩
                      refine hK.out _ _ ⟨hb8, ht2⟩ (fun hHeld => ?_)
                      clear hK K
                      refine norm_ (a' := ?_) ?_ ?_
                      rotate_left
                      · show Act.put _ (some 100) _ = _
                        simp only [Act.put, List.setIfInBounds_toArray, List.set_cons_zero, List.set_cons_succ, i64_w, i32_w]
                        rfl
                      refine pure_ (i := 7) (N := some 20) (v := ?_) (a' := ?_) #[true, true, true, true, true, true, true, true] rfl rfl (any_of HT_.out (by kernel_rfl)) (fun _ _ _ h => h) (Or.inl ⟨by rfl, ?_⟩) ?_ ?_
                      rotate_left
                      · intro w'
                        go_simp
                        with_reducible rfl
                      rotate_left
                      · simp only [Act.put, List.setIfInBounds_toArray, List.set_cons_zero, List.set_cons_succ, i64_w, i32_w]
                        rfl
                      refine done_ (done_of HT_.out (by kernel_rfl)) ?_

                      clear hHeld HT_ HW_
                      have h8L : Aside0 (g8 < wr.heap.size) := ⟨by have := HSr.out; have := HSr8.out; omega⟩
                      have ht1s : (wE.setCell ⟨g8, e.f1.toNat, none⟩ (.int .i64 d)).cell? ⟨wr.heap.size, 1, none⟩ = some (.int .i64 e.f1) := (blk_cell (blk_far HGR.out (by have := h8L.out; simp; omega) _) 1).trans rfl
                      by_cases hdx : d < x
                      · have HRx : Aside0 (relaxStep a st e = (st.1.set e.f1.toNat d, addq st.2 e.f1)) := ⟨by unfold relaxStep; rw [← HYY.out, ← HXX.out, ← HDD.out, if_pos hdx]⟩
                        go_wp2_with fail
                        refine (add_any ((wE.setCell ⟨g8, e.f1.toNat, none⟩ (.int .i64 d)).drew) wB.heap.size (wB.heap.size + 1) wB.heap.size j st.2 e.f1 he0 he1 hn ((OnceAt.far HOE.out HSr8.out).keep (fun _ _ => rfl)) HGr.out (by simp [World.setCell]; exact HSsE.out)).mono ?_
                        rintro e1 w3 ⟨rfl, ho3, hb3⟩
                        have HO3 := Aside0.mk ho3
                        have HB3 := Aside0.mk hb3
                        clear ho3 hb3 hb8 hb9 ht1 ht2 hf8 ht1s
                        go_wp2_with fail
                        go_roundw
                        case rel => exact ⟨q + 1, by omega, by go_num, ⟨by rw [HSt.out, HRx.out]; exact RowI.below (w := (wE.setCell ⟨g8, e.f1.toNat, none⟩ (.int .i64 d)).drew) (RowI.set HRE.out e.f1.toNat d) HB3.out HSr8.out⟩, ⟨by rw [HSt.out, HRx.out]; exact HO3.out⟩, ⟨by rw [HSt.out, HRx.out]; exact HGr.out.add he0 he1⟩, ⟨((HBE.out.setCell HS8.out _).drew).trans (HB3.out.mono HBq.out.size)⟩, ⟨fun k hk h8 => (HB3.out.block k hk).trans ((Below.heap_setCell wE _ _ _ (by simp; omega)).trans (HKE.out k hk h8))⟩, ⟨by have h1 := HB3.out.size; have h2 := HSsE.out; simp [World.setCell] at h1; omega⟩⟩
                        case measure => simp [intOf]; omega
                      · have HRx : Aside0 (relaxStep a st e = st) := ⟨by unfold relaxStep; rw [← HYY.out, ← HXX.out, ← HDD.out, if_neg hdx]⟩
                        clear ht1s
                        go_wp2_with fail
                        go_roundw
                        case rel => exact ⟨q + 1, by omega, by go_num, ⟨by rw [HSt.out, HRx.out]; exact HRE.out⟩, ⟨by rw [HSt.out, HRx.out]; exact HOE.out.keep (fun _ _ => rfl)⟩, ⟨by rw [HSt.out, HRx.out]; exact HGr.out⟩, ⟨HBE.out.drew⟩, HKE, HSsE⟩
                        case measure => simp [intOf]; omega
                    · obtain rfl : q = es.length := by omega
                      rw [List.take_of_length_le (Nat.le_refl _)] at HRr HOr HGr
                      clear hlt hq
                      obtain ⟨st, hst⟩ : ∃ st, st = es.foldl (relaxStep a) (c, L) := ⟨_, rfl⟩
                      rw [← hst] at HRr HOr HGr HRn
                      have HLs : Aside0 (st.1.length = j) := ⟨by rw [hst, relax_len]; exact HLc.out⟩
                      clear hst
                      obtain ⟨gk2, rfl⟩ : ∃ k', gk = k' + 1 := by
                        cases gk with
                        | zero => exact absurd HRn.out (by simp [run])
                        | succ k => exact ⟨k, rfl⟩
                      go_wp2_with fail
                      refine (next_any _ wB.heap.size (wB.heap.size + 1) wB.heap.size j st.2 hn HOr.out HGr.out HSr.out).mono ?_
                      rintro e1 w3 ⟨rfl, ho3, hb3⟩
                      have HO3 := Aside0.mk ho3
                      have HB3 := Aside0.mk hb3
                      clear ho3 hb3
                      go_wp2_with fail
                      go_roundg gk2
                      case measure => omega
                      case rel => exact ⟨st.1, st.2, rfl, rfl, ⟨HRr.out.below HB3.out HSr8.out⟩, HLs, HO3, HGr, ⟨HBr.out.trans (HB3.out.mono HBq.out.size)⟩, ⟨fun k hk h8 => (HB3.out.block k hk).trans (HKr.out k hk h8)⟩, ⟨by have := HB3.out.size; have := HSr.out; omega⟩, ⟨by rw [← HI.out]; exact HRn.out⟩⟩

end Go.Proofs.Ytmjdiiockddalaa.PW
