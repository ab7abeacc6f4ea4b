/- both of package sums: the numbers of two summaries, pair by pair, handed to a function; and whether they are of one shape and right. No conditions. -/
import Derived.Test.YtgemcomcjojjbaaHApp
namespace Go.Proofs.Ytgemcomcjojjbaa.PS
open Go.RowKit Go.Proofs.YtgemcomcjojjbaaW.PrintWords Go.Proofs.YtgemcomcjojjbaaW.PrintLast Go.Proofs.YtgemcomcjojjbaaW.PrintMore
set_option linter.unusedVariables false
set_option linter.unusedSimpArgs false

def TAB_22.T3 : Bool × List (List Nat × List Nat) := (true, [([], []), ([0], [0]), ([1], [1]), ([], []), ([3], [3]), ([2, 4], [2, 4]), ([], []), ([6], [6]), ([7], [7]), ([], []), ([9], [9]), ([8, 10, 5], [8, 10]), ([5, 11, 0, 1, 2, 3, 4, 5], [5]), ([11, 12, 0, 1, 2, 3, 4, 5, 6, 7, 8, 9, 10, 11, 12], [11])])
def TAB_22.B3 : List Nat := [0, 1, 3, 0, 8, 31, 0, 64, 192, 0, 512, 2047, 4095, 8191]
theorem TAB_22.tab3 : rtab .any (opsOf Try.f22 3) = TAB_22.T3 := by kernel_rfl
theorem TAB_22.bits3 : waitsOk TAB_22.T3.2 TAB_22.B3 = true := by kernel_rfl
abbrev kI : Kd Int := Kd.int .i64
abbrev kL : Kd (List Int) := Kd.slice 3 (Kd.int .i64)
/-- The cells of a slice of lists that can be read. -/
theorem cells_of_lists {w : World} {A : Option Addr} {n : Nat} {xs : List (List Int)} (h : kL.C w A n xs) : ∃ us : List Value, us.length = n ∧ (∀ (j : Nat) (x : List Int), xs[j]? = some x → ∃ u, us[j]? = some u ∧ kL.K w x [u]) ∧ (∀ u ∈ us, u.oneCell' = true) ∧ (0 < n → ∃ ad, A = some ad ∧ ∀ j u, us[j]? = some u → w.cell? (ad.add j) = some u) := by
  obtain ⟨hl, hm, hc⟩ := h
  rcases Nat.eq_zero_or_pos n with h0 | h0
  · subst h0
    obtain rfl : xs = [] := List.eq_nil_of_length_eq_zero hl
    exact ⟨[], rfl, by simp, by simp, fun h => absurd h (Nat.lt_irrefl 0)⟩
  obtain ⟨ad, rfl, hd⟩ := hc h0
  have hall : ∀ i : Fin n, ∃ u : Value, kL.K w (xs[i.1]'(by omega)) [u] ∧ w.cell? (ad.add i.1) = some u := by
    intro i
    obtain ⟨c, h1, h2, h3⟩ := hd i.1 _ (List.getElem?_eq_getElem (by omega))
    obtain ⟨A1, c1, rfl, hle, hC⟩ := h2
    exact ⟨_, ⟨A1, c1, rfl, hle, hC⟩, by simpa [Kd.slice] using h3 0 _ rfl⟩
  refine ⟨List.ofFn (fun i => Classical.choose (hall i)), by simp, ?_, ?_, fun _ => ⟨ad, rfl, ?_⟩⟩
  · intro j x hx
    obtain ⟨hj, rfl⟩ := List.getElem?_eq_some_iff.1 hx
    have hjn : j < n := by omega
    refine ⟨Classical.choose (hall ⟨j, hjn⟩), ?_, (Classical.choose_spec (hall ⟨j, hjn⟩)).1⟩
    rw [List.getElem?_eq_getElem (by simpa using hjn)]
    simp
  · intro u hu
    obtain ⟨i, rfl⟩ := (List.mem_ofFn).1 hu
    exact kL.K_one (Classical.choose_spec (hall i)).1 _ (List.mem_singleton.2 rfl)
  · intro j u hu
    obtain ⟨hj, rfl⟩ := List.getElem?_eq_some_iff.1 hu
    have hjn : j < n := by simpa using hj
    simpa using (Classical.choose_spec (hall ⟨j, hjn⟩)).2
/-- A row of one's own whose cells are lists can be read. -/
theorem lists_of_own {w w0 : World} {base n : Nat} {A : Option Addr} {c : Nat} {us : List Value} {xs : List (List Int)} (h : w.ownsRow base 22 1 (.slice A n c) n us) (hl : xs.length = n) (hK : ∀ (j : Nat) (x : List Int), xs[j]? = some x → ∃ u, us[j]? = some u ∧ kL.K w0 x [u]) (hb : Below w0.heap.size w0 w) : kL.C w A n xs := by
  have hus : us.length = n := by have := h.1; omega
  obtain ⟨A', c', he, hr⟩ := own_reads_row (R := kL.K w) (ps := xs) (size := 1) h ⟨by omega, fun j p hj => by
    obtain ⟨u, hu, hK⟩ := hK j p hj
    obtain ⟨hj', rfl⟩ := List.getElem?_eq_some_iff.1 hu
    rw [Nat.mul_one, List.drop_eq_getElem_cons hj', List.take_succ_cons, List.take_zero]
    exact kL.K_below hb hK⟩ hl
  injection he with h1 h2 h3
  subst h1
  exact hr
theorem lit_own {b : Nat} {W : World} (u : Value) (hb : b ≤ W.heap.size) : (W.alloc (.cells #[u] 22)).ownsRow b 22 1 (.slice (some ⟨W.heap.size, 0, none⟩) 1 1) 1 [u] := by
  have := World.ownsRow_lit (base := b) (e := 22) (size := 1) W #[u] 1 hb (by simp [maxLen]) (by simp)
  simpa using this
theorem step_lit {P : Program} {ops : Array Oper} {o : Oper} {a : Act} {Q : Exit → Act → World → Prop} {K : Act → World → Prop} {W0 W : World} (hw : Region.wanted o (yielded ops a.tmps) = true) (u : Value)
    (hrun : (execOp a.eval o).run P W = .ok (.value (.slice (some ⟨W.heap.size, 0, none⟩) 1 1)) (W.alloc (.cells #[u] 22)))
    (HB : Below W0.heap.size W0 W)
    (h : ∀ v1 w1, w1.ownsRow W0.heap.size 22 1 v1 1 [u] → Below W0.heap.size W0 w1 → (∀ v' n' us', W.ownsRow W0.heap.size 22 1 v' n' us' → w1.ownsRow W0.heap.size 22 1 v' n' us' ∧ NeRow v' v1) → K (a.put o.dst v1) w1) :
    if Region.wanted o (yielded ops a.tmps) = true then Oper.wp P o a W K Q else K (a.put o.dst undef) W := by
  rw [if_pos hw]
  unfold Oper.wp
  rw [hrun]
  exact h _ _ (lit_own u HB.size) (HB.alloc HB.size _) (fun v' n' us' ho => ⟨ho.alloc _, ne_symm (ne_made ho)⟩)
theorem step_spread {P : Program} {ops : Array Oper} {o : Oper} {a : Act} {Q : Exit → Act → World → Prop} {K : Act → World → Prop} {W0 W : World} (hw : Region.wanted o (yielded ops a.tmps) = true) (s x : Operand)
    (ho : o.op = .call { callee := .builtin .append, args := #[s, x], argTypes := #[29, 29] })
    (ht : P.underlying 29 = some (.slice 22)) (hinfo : (P.info? 22).map (fun i => (i.zero, i.size, i.bytes)) = some (some (.slice none 0 0), 1, 24))
    (v : Value) (n : Nat) (xs ys : List Value) (A : Option Addr) (m c : Nat) (hs : a.eval s = v) (hx : a.eval x = .slice A m c) (hys : ys.length = m) (hA : 0 < m → ∃ ad, A = some ad ∧ ∀ j u, ys[j]? = some u → W0.cell? (ad.add j) = some u) (h1 : ∀ u ∈ ys, u.oneCell' = true)
    (HO : W.ownsRow W0.heap.size 22 1 v n xs) (HB : Below W0.heap.size W0 W) (hl : (n + m) * 24 ≤ 140737488355328)
    (h : ∀ v1 w1, w1.ownsRow W0.heap.size 22 1 v1 (n + m) (xs ++ ys) → Below W0.heap.size W0 w1 → (∀ v' n' us', W.ownsRow W0.heap.size 22 1 v' n' us' → NeRow v v' → w1.ownsRow W0.heap.size 22 1 v' n' us' ∧ NeRow v1 v') → K (a.put o.dst v1) w1) :
    if Region.wanted o (yielded ops a.tmps) = true then Oper.wp P o a W K Q else K (a.put o.dst undef) W := by
  refine step_append_spread (P := P) W0.heap.size hw s x 29 22 (.slice none 0 0) 1 24 ho ht hinfo rfl (by omega) (by omega) v n xs ys A m c hs hx (by omega) ?_ h1 HO HB.size hl ?_
  · intro hm
    obtain ⟨ad, e, hc⟩ := hA hm
    exact ⟨ad, e, fun j u hu => pw_cell_below HB (hc j u hu)⟩
  · intro v1 w1 hown hg hat
    have hat' : v1.ownBlock = v.ownBlock ∨ ∃ b, v1.ownBlock = some b ∧ W.heap.size ≤ b := by
      rcases hat with h | h
      · exact .inl h
      · exact .inr ⟨_, h, Nat.le_refl _⟩
    refine h v1 w1 hown (HB.grown hg HB.size (own_base HO)) (fun v' n' us' ho hne => ⟨own_other ho hg (ne_other hne), ne_append hne hat' ho⟩)
def okPair (p : List Int × List Int) : Bool := decide (p.1.length = p.2.length) && (p.1.all isN && p.2.all isN)
def rowsOf (S : S31) : List (List Int) := S.f0 :: S.f1
def bothS (a b : S31) : Bool := decide (a.f1.length = b.f1.length) && ((rowsOf a).zip (rowsOf b)).all okPair
def pairsS (a b : S31) : List (Int × Int) := ((rowsOf a).zip (rowsOf b)).flatMap fun p => p.1.zip p.2
/-- The pairs of the first q rows. -/
def pu (Z : List (List Int × List Int)) (q : Nat) : List (Int × Int) := (Z.take q).flatMap fun p => p.1.zip p.2
theorem pu_next (Z : List (List Int × List Int)) (q : Nat) (h : q < Z.length) : pu Z (q + 1) = pu Z q ++ Z[q].1.zip Z[q].2 := by
  unfold pu
  rw [List.take_succ_eq_append_getElem h, List.flatMap_append]
  simp
theorem pu_len (Z : List (List Int × List Int)) (q k : Nat) (h : q < Z.length) (hk : k < (Z[q].1.zip Z[q].2).length) : (pu Z q ++ (Z[q].1.zip Z[q].2).take k).length < (Z.flatMap fun p => p.1.zip p.2).length := by
  have e : Z = Z.take q ++ Z[q] :: Z.drop (q + 1) := by rw [← List.drop_eq_getElem_cons h, List.take_append_drop]
  conv => rhs; rw [e]
  rw [List.flatMap_append, List.flatMap_cons, List.length_append, List.length_append, List.length_append, List.length_take]
  unfold pu
  omega
theorem zip_next (X Y : List (List Int)) (q : Nat) (h : q < X.length) (h' : q < Y.length) : ((X.zip Y).take (q + 1)).all okPair = (((X.zip Y).take q).all okPair && okPair (X[q], Y[q])) := by
  rw [List.take_succ_eq_append_getElem (by rw [List.length_zip]; omega), List.all_append]
  simp
theorem zip_not (X Y : List (List Int)) (q : Nat) (h : q < X.length) (h' : q < Y.length) : okPair (X[q], Y[q]) = false → (X.zip Y).all okPair = false := by
  intro he
  rw [Bool.eq_false_iff]
  intro ha
  rw [List.all_eq_true] at ha
  have := ha ((X.zip Y)[q]'(by rw [List.length_zip]; omega)) (List.getElem_mem _)
  rw [List.getElem_zip] at this
  rw [this] at he
  cases he
theorem zip_len (X Y : List (List Int)) (q : Nat) (h : q < X.length) (h' : q < Y.length) (ha : (X.zip Y).all okPair = true) : X[q].length = Y[q].length := by
  rw [List.all_eq_true] at ha
  have := ha ((X.zip Y)[q]'(by rw [List.length_zip]; omega)) (List.getElem_mem _)
  rw [List.getElem_zip] at this
  simp only [okPair, Bool.and_eq_true, decide_eq_true_eq] at this
  exact this.1
theorem own_keptBut {w w' : World} {base n g : Nat} {A : Option Addr} {c : Nat} {us : List Value} (h : w.ownsRow base 22 1 (.slice A n c) n us) (hg : g < base) (hk : KeepBut w w' g none) : w'.ownsRow base 22 1 (.slice A n c) n us :=
  hk.own h (fun he => by have := own_base h g he; omega) (by rcases (Value.slice A n c).ownBlock with _ | k; exact .inl rfl; exact .inr (by simp))
theorem lists_kept {w w' w0 : World} {base n g : Nat} {A : Option Addr} {c : Nat} {us : List Value} {xs : List (List Int)} (h : w.ownsRow base 22 1 (.slice A n c) n us) (hl : xs.length = n) (hK : ∀ (j : Nat) (x : List Int), xs[j]? = some x → ∃ u, us[j]? = some u ∧ kL.K w0 x [u]) (hg : g < base) (hk : KeepBut w w' g none) (hb : Below w0.heap.size w0 w') : kL.C w' A n xs :=
  lists_of_own (own_keptBut h hg hk) hl hK hb
theorem row_kept {w w0 : World} {base n g : Nat} {A : Option Addr} {c : Nat} {us : List Value} {xs : List (List Int)} (h : w.ownsRow base 22 1 (.slice A n c) n us) (hl : xs.length = n) (hK : ∀ (j : Nat) (x : List Int), xs[j]? = some x → ∃ u, us[j]? = some u ∧ kL.K w0 x [u]) (hg : g < base) (q : Nat) (hq : q < xs.length) :
    ∃ ad A2 c2, A = some ad ∧ xs[q].length ≤ c2 ∧ kI.C w0 A2 xs[q].length xs[q] ∧ ∀ w', KeepBut w w' g none → w'.cell? (ad.add q) = some (.slice A2 xs[q].length c2) := by
  obtain ⟨u, hu, A2, c2, he, hle, hC⟩ := hK q _ (List.getElem?_eq_getElem hq)
  obtain rfl : u = .slice A2 xs[q].length c2 := by simpa using he
  obtain ⟨g1, cap, e, _, _⟩ := h.form (by omega)
  injection e with e1 e2 e3
  subst e1
  exact ⟨_, A2, c2, rfl, hle, hC, fun w' hk => (own_keptBut h hg hk).cells rfl _ _ hu⟩
theorem zip_take (r s : List Int) (k : Nat) (h : k < r.length) (h' : k < s.length) : (r.zip s).take (k + 1) = (r.zip s).take k ++ [(rd r (k : Int), rd s (k : Int))] := by
  rw [List.take_succ_eq_append_getElem (by rw [List.length_zip]; omega), rd_get r k h, rd_get s k h', List.getElem_zip]
theorem keys_cons {Wz : World} {A0 : Option Addr} {c0 : Nat} {x : List Int} {y : List (List Int)} {us : List Value} (h0 : kI.C Wz A0 x.length x) (l0 : x.length ≤ c0) (hK : ∀ (j : Nat) (x : List Int), y[j]? = some x → ∃ u, us[j]? = some u ∧ kL.K Wz x [u]) : ∀ (j : Nat) (r : List Int), (x :: y)[j]? = some r → ∃ u, ([.slice A0 x.length c0] ++ us)[j]? = some u ∧ kL.K Wz r [u] := by
  intro j r hj
  rcases j with _ | j
  · obtain rfl : x = r := by simpa using hj
    exact ⟨_, rfl, A0, c0, rfl, l0, h0⟩
  · exact hK j r (by simpa using hj)
set_option maxHeartbeats 8000000 in
set_option maxRecDepth 100000 in
theorem both_any (fid : Nat) (hf : fid = 23 ∨ fid = 28) (g : Nat) (a b : S31) (A0 : Option Addr) (c0 : Nat) (A1 : Option Addr) (c1 : Nat) (B0 : Option Addr) (d0 : Nat) (B1 : Option Addr) (d1 : Nat) (Wz W : World) (hWz : Below Wz.heap.size Wz W) (hg0 : Wz.heap.size ≤ g) (hg1 : g < W.heap.size)
    (h0 : kI.C Wz A0 a.f0.length a.f0) (l0 : a.f0.length ≤ c0) (h1 : kL.C Wz A1 a.f1.length a.f1) (l1 : a.f1.length ≤ c1)
    (h2 : kI.C Wz B0 b.f0.length b.f0) (l2 : b.f0.length ≤ d0) (h3 : kL.C Wz B1 b.f1.length b.f1) (l3 : b.f1.length ≤ d1)
    (ha : (1 + a.f1.length) * 24 ≤ 140737488355328) (hb : (1 + b.f1.length) * 24 ≤ 140737488355328)
    (Inv : World → List (Int × Int) → World → Prop)
    (hI0 : ∀ w3, Below W.heap.size W w3 → Inv w3 [] w3)
    (hIk : ∀ w3 don w', Inv w3 don w' → KeepBut w3 w' g none ∧ Below Wz.heap.size Wz w')
    (hsee : ∀ w3 don x y w', Below W.heap.size W w3 → Inv w3 don w' → don.length < (pairsS a b).length → Calls Try.prog fid #[.int .i64 x, .int .i64 y, .pointer (some ⟨g, 0, none⟩)] w' fun e w'' => e = .returned (.tuple #[]) ∧ Inv w3 (don ++ [(x, y)]) w'') :
    Calls Try.prog 22 #[.agg #[.slice A0 a.f0.length c0, .slice A1 a.f1.length c1], .agg #[.slice B0 b.f0.length d0, .slice B1 b.f1.length d1], .func (Fn.func fid) #[] #[.pointer (some ⟨g, 0, none⟩)]] W fun e w' => e = .returned (.bool (bothS a b)) ∧ Below Wz.heap.size Wz w' ∧ KeepBut W w' g none ∧ (bothS a b = true → ∃ w3, Below W.heap.size W w3 ∧ Inv w3 (pairsS a b) w') := by
  obtain ⟨x, y⟩ := a
  obtain ⟨x', y'⟩ := b
  replace h0 : kI.C Wz A0 x.length x := h0
  replace h1 : kL.C Wz A1 y.length y := h1
  replace l0 : x.length ≤ c0 := l0
  replace l1 : y.length ≤ c1 := l1
  replace h2 : kI.C Wz B0 x'.length x' := h2
  replace h3 : kL.C Wz B1 y'.length y' := h3
  replace l2 : x'.length ≤ d0 := l2
  replace l3 : y'.length ≤ d1 := l3
  replace ha : (1 + y.length) * 24 ≤ 140737488355328 := ha
  replace hb : (1 + y'.length) * 24 ≤ 140737488355328 := hb
  show Calls Try.prog 22 #[.agg #[.slice A0 x.length c0, .slice A1 y.length c1], .agg #[.slice B0 x'.length d0, .slice B1 y'.length d1], .func (Fn.func fid) #[] #[.pointer (some ⟨g, 0, none⟩)]] W fun e w' => e = .returned (.bool (bothS ⟨x, y⟩ ⟨x', y'⟩)) ∧ Below Wz.heap.size Wz w' ∧ KeepBut W w' g none ∧ (bothS ⟨x, y⟩ ⟨x', y'⟩ = true → ∃ w3, Below W.heap.size W w3 ∧ Inv w3 (pairsS ⟨x, y⟩ ⟨x', y'⟩) w')
  have HR0 := Aside0.mk h0
  have HR1 := Aside0.mk h1
  have HR2 := Aside0.mk h2
  have HR3 := Aside0.mk h3
  have HL0 := Aside0.mk l0
  have HL1 := Aside0.mk l1
  have HL2 := Aside0.mk l2
  have HL3 := Aside0.mk l3
  have hm1 : y.length ≤ 9223372036854775807 := Kd.C_max h1
  have hm0 : x.length ≤ 9223372036854775807 := Kd.C_max h0
  have hm3 : y'.length ≤ 9223372036854775807 := Kd.C_max h3
  have hm2 : x'.length ≤ 9223372036854775807 := Kd.C_max h2
  have HNm := Aside0.mk numbers_any
  have HB0 := Aside0.mk (Below.refl W.heap.size W)
  have HWz := Aside0.mk hWz
  have Hg0 := Aside0.mk hg0
  have Hg1 := Aside0.mk hg1
  have Ha := Aside0.mk ha
  have Hb := Aside0.mk hb
  have HI0 := Aside0.mk hI0
  have HIk := Aside0.mk hIk
  have HSee := Aside0.mk hsee
  have Hf := Aside0.mk hf
  clear h0 h1 h2 h3 l0 l1 l2 l3 hWz hg0 hg1 ha hb hI0 hIk hsee hf
  by_cases e1 : y.length = y'.length
  · have e1' : ((y.length : Int) != (y'.length : Int)) = false := by simp [e1]
    have HE1 := Aside0.mk e1
    clear e1
    go_enter Try.func22, Try.ntmps22
    go_wp2_with (first | ((with_reducible refine gate_dst (N := 3) rfl ?_); refine box_event ?hg (N := 3) ?hd (cs := #[.slice A0 x.length c0, .slice A1 y.length c1]) (t := 31) ?hr ?_; (case hd => rfl); (case hg => rfl); (case hr => first | (go_simp; done) | (go_simp; rfl)); intro g2 hg w1 hbox hb; have BK2 := Aside0.mk hbox; have HB := Aside0.mk hb; clear HB0 hg hbox hb) | ((with_reducible refine gate_dst (N := 4) rfl ?_); refine box_event ?hg (N := 4) ?hd (cs := #[.slice B0 x'.length d0, .slice B1 y'.length d1]) (t := 31) ?hr ?_; (case hd => rfl); (case hg => rfl); (case hr => first | (go_simp; done) | (go_simp; rfl)); intro g3 hg w2 hbox hb; have BK2_ := Aside0.mk (blk_below BK2.out hb); have BK3 := Aside0.mk hbox; have HB_ := Aside0.mk (HB.out.trans (hb.mono HB.out.size)); clear HB BK2 hg hbox hb; have BK2 := BK2_; have HB := HB_; clear BK2_ HB_; have hz0 : w2.cell? ⟨g2, 0, none⟩ = some (.slice A0 x.length c0) := (blk_cell BK2.out 0).trans rfl; have hz1 : w2.cell? ⟨g2, 1, none⟩ = some (.slice A1 y.length c1) := (blk_cell BK2.out 1).trans rfl; have hy0 : w2.cell? ⟨g3, 0, none⟩ = some (.slice B0 x'.length d0) := (blk_cell BK3.out 0).trans rfl; have hy1 : w2.cell? ⟨g3, 1, none⟩ = some (.slice B1 y'.length d1) := (blk_cell BK3.out 1).trans rfl))
    have HBz := Aside0.mk (HWz.out.trans (HB.out.mono HWz.out.size))
    obtain ⟨us, hus_, hK_, hone_, hA_⟩ := cells_of_lists HR1.out
    have HUs := Aside0.mk hus_
    have HUK := Aside0.mk hK_
    have HU1 := Aside0.mk hone_
    have HUA : Aside0 (0 < y.length → ∃ ad, A1 = some ad ∧ ∀ j u, us[j]? = some u → w2.cell? (ad.add j) = some u) := ⟨fun h => by obtain ⟨ad, e, h'⟩ := hA_ h; exact ⟨ad, e, fun j u hu => pw_cell_below HBz.out (h' j u hu)⟩⟩
    obtain ⟨vs, hvs_, hL_, hone2_, hA2_⟩ := cells_of_lists HR3.out
    have HVs := Aside0.mk hvs_
    have HVK := Aside0.mk hL_
    have HV1 := Aside0.mk hone2_
    have HVA : Aside0 (0 < y'.length → ∃ ad, B1 = some ad ∧ ∀ j u, vs[j]? = some u → w2.cell? (ad.add j) = some u) := ⟨fun h => by obtain ⟨ad, e, h'⟩ := hA2_ h; exact ⟨ad, e, fun j u hu => pw_cell_below HBz.out (h' j u hu)⟩⟩
    clear hus_ hK_ hone_ hA_ hvs_ hL_ hone2_ hA2_
    have HBc : Aside0 (Below w2.heap.size w2 w2.drew) := ⟨below_drew (Below.refl _ _)⟩
    refine start_ (n := 14) (S := fun w' => w'.cell? ⟨g2, 0, none⟩ = some (.slice A0 x.length c0) ∧ w'.cell? ⟨g2, 1, none⟩ = some (.slice A1 y.length c1) ∧ w'.cell? ⟨g3, 0, none⟩ = some (.slice B0 x'.length d0) ∧ w'.cell? ⟨g3, 1, none⟩ = some (.slice B1 y'.length d1)) (ds := []) #[false, false, false, false, false, false, false, false, false, false, false, false, false, false] (by kernel_rfl) rfl rfl ⟨hz0, hz1, hy0, hy1⟩ (fun hHeld => ?_)
    refine with_tabW TAB_22.tab3 TAB_22.bits3 (fun HT_ HW_ => ?_)
    refine pure_ (i := 0) (N := some 22) (v := ?_) (a' := ?_) #[true, false, false, false, false, false, false, false, false, false, false, false, false, false] rfl rfl (any_of HT_.out (by kernel_rfl)) (fun _ _ _ h => h) (Or.inl ⟨by rfl, ?_⟩) ?_ ?_
    rotate_left
    · intro w'
      go_simp
      with_reducible rfl
    rotate_left
    · simp only [Act.put, List.setIfInBounds_toArray, List.set_cons_zero, List.set_cons_succ, i64_w, i32_w]
      rfl
    refine pure_ (i := 3) (N := some 25) (v := ?_) (a' := ?_) #[true, false, false, true, false, false, false, false, false, false, false, false, false, false] rfl rfl (any_of HT_.out (by kernel_rfl)) (fun _ _ _ h => h) (Or.inl ⟨by rfl, ?_⟩) ?_ ?_
    rotate_left
    · intro w'
      go_simp
      with_reducible rfl
    rotate_left
    · simp only [Act.put, List.setIfInBounds_toArray, List.set_cons_zero, List.set_cons_succ, i64_w, i32_w]
      rfl
    refine pure_ (i := 6) (N := some 28) (v := ?_) (a' := ?_) #[true, false, false, true, false, false, true, false, false, false, false, false, false, false] rfl rfl (any_of HT_.out (by kernel_rfl)) (fun _ _ _ h => h) (Or.inl ⟨by rfl, ?_⟩) ?_ ?_
    rotate_left
    · intro w'
      go_simp
      with_reducible rfl
    rotate_left
    · simp only [Act.put, List.setIfInBounds_toArray, List.set_cons_zero, List.set_cons_succ, i64_w, i32_w]
      rfl
    refine pure_ (i := 9) (N := some 31) (v := ?_) (a' := ?_) #[true, false, false, true, false, false, true, false, false, true, false, false, false, false] rfl rfl (any_of HT_.out (by kernel_rfl)) (fun _ _ _ h => h) (Or.inl ⟨by rfl, ?_⟩) ?_ ?_
    rotate_left
    · intro w'
      go_simp
      with_reducible rfl
    rotate_left
    · simp only [Act.put, List.setIfInBounds_toArray, List.set_cons_zero, List.set_cons_succ, i64_w, i32_w]
      rfl
    refine take_ (i := 1) (N := some 23) (v := ?_) (a' := ?_) #[true, true, false, true, false, false, true, false, false, true, false, false, false, false] rfl rfl (take_ofW HT_.out HW_.out (by kernel_rfl)) (fun _ _ _ h => h) (Or.inl ⟨by rfl, ?_⟩) hHeld ?_ ?_
    rotate_left
    · rintro w' ⟨s0, s1, s2, s3⟩
      go_simp
      with_reducible rfl
    rotate_left
    · simp only [Act.put, List.setIfInBounds_toArray, List.set_cons_zero, List.set_cons_succ, i64_w, i32_w]
      rfl
    refine take_ (i := 4) (N := some 26) (v := ?_) (a' := ?_) #[true, true, false, true, true, false, true, false, false, true, false, false, false, false] rfl rfl (take_ofW HT_.out HW_.out (by kernel_rfl)) (fun _ _ _ h => h) (Or.inl ⟨by rfl, ?_⟩) hHeld ?_ ?_
    rotate_left
    · rintro w' ⟨s0, s1, s2, s3⟩
      go_simp
      with_reducible rfl
    rotate_left
    · simp only [Act.put, List.setIfInBounds_toArray, List.set_cons_zero, List.set_cons_succ, i64_w, i32_w]
      rfl
    refine take_ (i := 7) (N := some 29) (v := ?_) (a' := ?_) #[true, true, false, true, true, false, true, true, false, true, false, false, false, false] rfl rfl (take_ofW HT_.out HW_.out (by kernel_rfl)) (fun _ _ _ h => h) (Or.inl ⟨by rfl, ?_⟩) hHeld ?_ ?_
    rotate_left
    · rintro w' ⟨s0, s1, s2, s3⟩
      go_simp
      with_reducible rfl
    rotate_left
    · simp only [Act.put, List.setIfInBounds_toArray, List.set_cons_zero, List.set_cons_succ, i64_w, i32_w]
      rfl
    refine take_ (i := 10) (N := some 32) (v := ?_) (a' := ?_) #[true, true, false, true, true, false, true, true, false, true, true, false, false, false] rfl rfl (take_ofW HT_.out HW_.out (by kernel_rfl)) (fun _ _ _ h => h) (Or.inl ⟨by rfl, ?_⟩) hHeld ?_ ?_
    rotate_left
    · rintro w' ⟨s0, s1, s2, s3⟩
      go_simp
      with_reducible rfl
    rotate_left
    · simp only [Act.put, List.setIfInBounds_toArray, List.set_cons_zero, List.set_cons_succ, i64_w, i32_w]
      rfl
    refine join_ (σ := Value × Value × Value) 3 #[true, true, true, true, true, true, true, true, true, true, true, false, false, false] (fun s => [(24, s.1), (27, s.2.1), (30, s.2.2)]) (fun s w' => w'.ownsRow w2.heap.size 22 1 s.2.1 (1 + y.length) ([.slice A0 x.length c0] ++ us) ∧ w'.ownsRow w2.heap.size 22 1 s.2.2 1 [.slice B0 x'.length d0] ∧ NeRow s.2.1 s.2.2 ∧ Below w2.heap.size w2 w') ?_ ?_
    rotate_left
    · intro hCont
      refine two_ (i := 2) (j := 8) (Ni := some 24) (Nj := some 30) #[true, true, true, true, true, false, true, true, false, true, true, false, false, false] #[true, true, false, true, true, false, true, true, true, true, true, false, false, false] rfl rfl rfl rfl (two_of HT_.out (by kernel_rfl)) (by decide) (by decide) (fun K hK => ?_) (fun K hK => ?_)
      · skip
        refine step_lit (W0 := w2) (by rfl) (.slice A0 x.length c0) (by first | (go_simp; done) | (go_simp; rfl)) HBc.out ?_
        intro v24 wX hO hB hOth
        have HO24 := Aside0.mk hO
        clear HBc
        have HBc := Aside0.mk hB
        clear hO hB hOth
        refine hK.out _ _ ⟨pw_cell_below HBc.out hz0, pw_cell_below HBc.out hz1, pw_cell_below HBc.out hy0, pw_cell_below HBc.out hy1⟩ (fun hHeld => ?_)
        clear hK K
        refine norm_ (a' := ?_) ?_ ?_
        rotate_left
        · show Act.put _ (some 24) _ = _
          simp only [Act.put, List.setIfInBounds_toArray, List.set_cons_zero, List.set_cons_succ, i64_w, i32_w]
          rfl
        refine two_ (i := 5) (j := 8) (Ni := some 27) (Nj := some 30) #[true, true, true, true, true, true, true, true, false, true, true, false, false, false] #[true, true, true, true, true, false, true, true, true, true, true, false, false, false] rfl rfl rfl rfl (two_of HT_.out (by kernel_rfl)) (by decide) (by decide) (fun K hK => ?_) (fun K hK => ?_)
        · skip
          refine step_spread (W0 := w2) (by rfl) (.tmp 24) (.tmp 26) (by rfl) Try.underlying29 info22 v24 1 [.slice A0 x.length c0] us A1 y.length c1 (by rfl) (by rfl) HUs.out HUA.out HU1.out HO24.out HBc.out Ha.out ?_
          intro v27 wX hO hB hOth
          have HO27 := Aside0.mk hO
          clear HO24
          clear HBc
          have HBc := Aside0.mk hB
          clear hO hB hOth
          refine hK.out _ _ ⟨pw_cell_below HBc.out hz0, pw_cell_below HBc.out hz1, pw_cell_below HBc.out hy0, pw_cell_below HBc.out hy1⟩ (fun hHeld => ?_)
          clear hK K
          refine norm_ (a' := ?_) ?_ ?_
          rotate_left
          · show Act.put _ (some 27) _ = _
            simp only [Act.put, List.setIfInBounds_toArray, List.set_cons_zero, List.set_cons_succ, i64_w, i32_w]
            rfl
          refine one_ (i := 8) (N := some 30) #[true, true, true, true, true, true, true, true, true, true, true, false, false, false] rfl rfl (one_of HT_.out (by kernel_rfl)) (by decide) (fun K hK => ?_)
          refine step_lit (W0 := w2) (by rfl) (.slice B0 x'.length d0) (by first | (go_simp; done) | (go_simp; rfl)) HBc.out ?_
          intro v30 wX hO hB hOth
          have HO30 := Aside0.mk hO
          have HNe := Aside0.mk (hOth _ _ _ HO27.out).2
          have HO27_ := Aside0.mk (hOth _ _ _ HO27.out).1
          clear HO27
          have HO27 := HO27_
          clear HO27_
          clear HBc
          have HBc := Aside0.mk hB
          clear hO hB hOth
          refine hK.out _ _ ⟨pw_cell_below HBc.out hz0, pw_cell_below HBc.out hz1, pw_cell_below HBc.out hy0, pw_cell_below HBc.out hy1⟩ (fun hHeld => ?_)
          clear hK K
          refine norm_ (a' := ?_) ?_ ?_
          rotate_left
          · show Act.put _ (some 30) _ = _
            simp only [Act.put, List.setIfInBounds_toArray, List.set_cons_zero, List.set_cons_succ, i64_w, i32_w]
            rfl
          exact norm_ (by simp only [putAll, Act.put, List.setIfInBounds_toArray, List.set_cons_zero, List.set_cons_succ]) (hCont (v24, v27, v30) _ ⟨HO27.out, HO30.out, HNe.out, HBc.out⟩)
        · skip
          refine step_lit (W0 := w2) (by rfl) (.slice B0 x'.length d0) (by first | (go_simp; done) | (go_simp; rfl)) HBc.out ?_
          intro v30 wX hO hB hOth
          have HO30 := Aside0.mk hO
          have HNe := Aside0.mk (hOth _ _ _ HO24.out).2
          have HO24_ := Aside0.mk (hOth _ _ _ HO24.out).1
          clear HO24
          have HO24 := HO24_
          clear HO24_
          clear HBc
          have HBc := Aside0.mk hB
          clear hO hB hOth
          refine hK.out _ _ ⟨pw_cell_below HBc.out hz0, pw_cell_below HBc.out hz1, pw_cell_below HBc.out hy0, pw_cell_below HBc.out hy1⟩ (fun hHeld => ?_)
          clear hK K
          refine norm_ (a' := ?_) ?_ ?_
          rotate_left
          · show Act.put _ (some 30) _ = _
            simp only [Act.put, List.setIfInBounds_toArray, List.set_cons_zero, List.set_cons_succ, i64_w, i32_w]
            rfl
          refine one_ (i := 5) (N := some 27) #[true, true, true, true, true, true, true, true, true, true, true, false, false, false] rfl rfl (one_of HT_.out (by kernel_rfl)) (by decide) (fun K hK => ?_)
          refine step_spread (W0 := w2) (by rfl) (.tmp 24) (.tmp 26) (by rfl) Try.underlying29 info22 v24 1 [.slice A0 x.length c0] us A1 y.length c1 (by rfl) (by rfl) HUs.out HUA.out HU1.out HO24.out HBc.out Ha.out ?_
          intro v27 wX hO hB hOth
          have HO27 := Aside0.mk hO
          have HNe_ := Aside0.mk (hOth _ _ _ HO30.out HNe.out).2
          have HO30_ := Aside0.mk (hOth _ _ _ HO30.out HNe.out).1
          clear HO30 HNe
          have HO30 := HO30_
          have HNe := HNe_
          clear HO30_ HNe_
          clear HO24
          clear HBc
          have HBc := Aside0.mk hB
          clear hO hB hOth
          refine hK.out _ _ ⟨pw_cell_below HBc.out hz0, pw_cell_below HBc.out hz1, pw_cell_below HBc.out hy0, pw_cell_below HBc.out hy1⟩ (fun hHeld => ?_)
          clear hK K
          refine norm_ (a' := ?_) ?_ ?_
          rotate_left
          · show Act.put _ (some 27) _ = _
            simp only [Act.put, List.setIfInBounds_toArray, List.set_cons_zero, List.set_cons_succ, i64_w, i32_w]
            rfl
          exact norm_ (by simp only [putAll, Act.put, List.setIfInBounds_toArray, List.set_cons_zero, List.set_cons_succ]) (hCont (v24, v27, v30) _ ⟨HO27.out, HO30.out, HNe.out, HBc.out⟩)
      · skip
        refine step_lit (W0 := w2) (by rfl) (.slice B0 x'.length d0) (by first | (go_simp; done) | (go_simp; rfl)) HBc.out ?_
        intro v30 wX hO hB hOth
        have HO30 := Aside0.mk hO
        clear HBc
        have HBc := Aside0.mk hB
        clear hO hB hOth
        refine hK.out _ _ ⟨pw_cell_below HBc.out hz0, pw_cell_below HBc.out hz1, pw_cell_below HBc.out hy0, pw_cell_below HBc.out hy1⟩ (fun hHeld => ?_)
        clear hK K
        refine norm_ (a' := ?_) ?_ ?_
        rotate_left
        · show Act.put _ (some 30) _ = _
          simp only [Act.put, List.setIfInBounds_toArray, List.set_cons_zero, List.set_cons_succ, i64_w, i32_w]
          rfl
        refine one_ (i := 2) (N := some 24) #[true, true, true, true, true, false, true, true, true, true, true, false, false, false] rfl rfl (one_of HT_.out (by kernel_rfl)) (by decide) (fun K hK => ?_)
        refine step_lit (W0 := w2) (by rfl) (.slice A0 x.length c0) (by first | (go_simp; done) | (go_simp; rfl)) HBc.out ?_
        intro v24 wX hO hB hOth
        have HO24 := Aside0.mk hO
        have HNe := Aside0.mk (ne_symm (hOth _ _ _ HO30.out).2)
        have HO30_ := Aside0.mk (hOth _ _ _ HO30.out).1
        clear HO30
        have HO30 := HO30_
        clear HO30_
        clear HBc
        have HBc := Aside0.mk hB
        clear hO hB hOth
        refine hK.out _ _ ⟨pw_cell_below HBc.out hz0, pw_cell_below HBc.out hz1, pw_cell_below HBc.out hy0, pw_cell_below HBc.out hy1⟩ (fun hHeld => ?_)
        clear hK K
        refine norm_ (a' := ?_) ?_ ?_
        rotate_left
        · show Act.put _ (some 24) _ = _
          simp only [Act.put, List.setIfInBounds_toArray, List.set_cons_zero, List.set_cons_succ, i64_w, i32_w]
          rfl
        refine one_ (i := 5) (N := some 27) #[true, true, true, true, true, true, true, true, true, true, true, false, false, false] rfl rfl (one_of HT_.out (by kernel_rfl)) (by decide) (fun K hK => ?_)
        refine step_spread (W0 := w2) (by rfl) (.tmp 24) (.tmp 26) (by rfl) Try.underlying29 info22 v24 1 [.slice A0 x.length c0] us A1 y.length c1 (by rfl) (by rfl) HUs.out HUA.out HU1.out HO24.out HBc.out Ha.out ?_
        intro v27 wX hO hB hOth
        have HO27 := Aside0.mk hO
        have HNe_ := Aside0.mk (hOth _ _ _ HO30.out HNe.out).2
        have HO30_ := Aside0.mk (hOth _ _ _ HO30.out HNe.out).1
        clear HO30 HNe
        have HO30 := HO30_
        have HNe := HNe_
        clear HO30_ HNe_
        clear HO24
        clear HBc
        have HBc := Aside0.mk hB
        clear hO hB hOth
        refine hK.out _ _ ⟨pw_cell_below HBc.out hz0, pw_cell_below HBc.out hz1, pw_cell_below HBc.out hy0, pw_cell_below HBc.out hy1⟩ (fun hHeld => ?_)
        clear hK K
        refine norm_ (a' := ?_) ?_ ?_
        rotate_left
        · show Act.put _ (some 27) _ = _
          simp only [Act.put, List.setIfInBounds_toArray, List.set_cons_zero, List.set_cons_succ, i64_w, i32_w]
          rfl
        exact norm_ (by simp only [putAll, Act.put, List.setIfInBounds_toArray, List.set_cons_zero, List.set_cons_succ]) (hCont (v24, v27, v30) _ ⟨HO27.out, HO30.out, HNe.out, HBc.out⟩)
    rintro ⟨v24, v27, v30⟩ wF ⟨hO27, hO30, hNe, hBF⟩
    have HO27 := Aside0.mk hO27
    have HO30 := Aside0.mk hO30
    have HNe := Aside0.mk hNe
    clear HBc
    have HBc := Aside0.mk hBF
    have hHeld : wF.cell? ⟨g2, 0, none⟩ = some (.slice A0 x.length c0) ∧ wF.cell? ⟨g2, 1, none⟩ = some (.slice A1 y.length c1) ∧ wF.cell? ⟨g3, 0, none⟩ = some (.slice B0 x'.length d0) ∧ wF.cell? ⟨g3, 1, none⟩ = some (.slice B1 y'.length d1) := ⟨pw_cell_below hBF hz0, pw_cell_below hBF hz1, pw_cell_below hBF hy0, pw_cell_below hBF hy1⟩
    clear hO27 hO30 hNe hBF
    refine norm_ (a' := ?_) ?_ ?_
    rotate_left
    · simp only [putAll, Act.put, List.setIfInBounds_toArray, List.set_cons_zero, List.set_cons_succ]
      rfl
    refine one_ (i := 11) (N := some 33) #[true, true, true, true, true, true, true, true, true, true, true, true, false, false] rfl rfl (one_of HT_.out (by kernel_rfl)) (by decide) (fun K hK => ?_)
    refine step_spread (W0 := w2) (by rfl) (.tmp 30) (.tmp 32) (by rfl) Try.underlying29 info22 v30 1 [.slice B0 x'.length d0] vs B1 y'.length d1 (by rfl) (by rfl) HVs.out HVA.out HV1.out HO30.out HBc.out Hb.out ?_
    intro v33 wX hO hB hOth
    have HO33 := Aside0.mk hO
    have HO27_ := Aside0.mk (hOth _ _ _ HO27.out (ne_symm HNe.out)).1
    clear HO27 HO30 HNe
    have HO27 := HO27_
    clear HO27_
    clear HBc
    have HBc := Aside0.mk hB
    clear hO hB hOth
    refine hK.out _ _ ⟨pw_cell_below HBc.out hz0, pw_cell_below HBc.out hz1, pw_cell_below HBc.out hy0, pw_cell_below HBc.out hy1⟩ (fun hHeld => ?_)
    clear hK K
    refine norm_ (a' := ?_) ?_ ?_
    rotate_left
    · show Act.put _ (some 33) _ = _
      simp only [Act.put, List.setIfInBounds_toArray, List.set_cons_zero, List.set_cons_succ, i64_w, i32_w]
      rfl
    refine pure_ (i := 12) (N := some 7) (v := ?_) (a' := ?_) #[true, true, true, true, true, true, true, true, true, true, true, true, true, false] rfl rfl (any_of HT_.out (by kernel_rfl)) (fun _ _ _ h => h) (Or.inl ⟨by rfl, ?_⟩) ?_ ?_
    rotate_left
    · intro w'
      go_simp
      with_reducible rfl
    rotate_left
    · simp only [Act.put, List.setIfInBounds_toArray, List.set_cons_zero, List.set_cons_succ, i64_w, i32_w]
      rfl
    refine pure_ (i := 13) (N := some 8) (v := ?_) (a' := ?_) #[true, true, true, true, true, true, true, true, true, true, true, true, true, true] rfl rfl (any_of HT_.out (by kernel_rfl)) (fun _ _ _ h => h) (Or.inl ⟨by rfl, ?_⟩) ?_ ?_
    rotate_left
    · intro w'
      go_simp
      with_reducible rfl
    rotate_left
    · simp only [Act.put, List.setIfInBounds_toArray, List.set_cons_zero, List.set_cons_succ, i64_w, i32_w]
      rfl
    refine done_ (done_of HT_.out (by kernel_rfl)) ?_

    clear hHeld HT_ HW_
    have HO27_ : Aside0 (wX.ownsRow w2.heap.size 22 1 v27 (1 + y.length) ([.slice A0 x.length c0] ++ us)) := ⟨HO27.out⟩
    clear HO27
    have HO27 := HO27_
    clear HO27_
    obtain ⟨Ao, co, rfl⟩ := own_slice HO27.out
    obtain ⟨Bo, do_, rfl⟩ := own_slice HO33.out
    have HKx : Aside0 (∀ (j : Nat) (r : List Int), (x :: y)[j]? = some r → ∃ u, ([.slice A0 x.length c0] ++ us)[j]? = some u ∧ kL.K Wz r [u]) := ⟨keys_cons HR0.out HL0.out HUK.out⟩
    have HKy : Aside0 (∀ (j : Nat) (r : List Int), (x' :: y')[j]? = some r → ∃ u, ([.slice B0 x'.length d0] ++ vs)[j]? = some u ∧ kL.K Wz r [u]) := ⟨keys_cons HR2.out HL2.out HVK.out⟩
    obtain ⟨n, hn⟩ : ∃ n, n = 1 + y.length := ⟨_, rfl⟩
    have hn' : 1 + y'.length = n := by rw [hn, HE1.out]
    rw [← hn] at HO27
    rw [hn'] at HO33
    have hnm : n ≤ 5864062014805 := by have := Ha.out; omega
    have HP : Aside0 (bothS ⟨x, y⟩ ⟨x', y'⟩ = ((x :: y).zip (x' :: y')).all okPair) := ⟨by unfold bothS rowsOf; rw [decide_eq_true (p := y.length = y'.length) HE1.out]; rfl⟩
    have HQ : Aside0 (pairsS ⟨x, y⟩ ⟨x', y'⟩ = ((x :: y).zip (x' :: y')).flatMap fun p => p.1.zip p.2) := ⟨rfl⟩
    obtain ⟨X, hX⟩ : ∃ X, X = x :: y := ⟨_, rfl⟩
    obtain ⟨Y, hY⟩ : ∃ Y, Y = x' :: y' := ⟨_, rfl⟩
    have hXl : X.length = n := by rw [hX, hn, List.length_cons]; omega
    have hYl : Y.length = n := by rw [hY, ← hn', List.length_cons]; omega
    rw [← hX, ← hY] at HP HQ
    rw [← hX] at HKx
    rw [← hY] at HKy
    rw [HQ.out] at HSee
    have HBx := Aside0.mk (HB.out.trans (HBc.out.mono HB.out.size))
    have HBzx := Aside0.mk (HWz.out.trans (HBx.out.mono HWz.out.size))
    have Hgx : Aside0 (g < w2.heap.size) := ⟨Nat.lt_of_lt_of_le Hg1.out HB.out.size⟩
    have HCX := Aside0.mk (lists_of_own (xs := X) HO27.out hXl HKx.out HBzx.out)
    have HCY := Aside0.mk (lists_of_own (xs := Y) HO33.out hYl HKy.out HBzx.out)
    rw [← hn, hn']
    clear HR0 HR1 HR2 HR3 HL0 HL1 HL2 HL3 Ha Hb HE1 BK2 BK3 HB hz0 hz1 hy0 hy1 HUs HUK HU1 HUA HVs HVK HV1 HVA HBc HBz hn hn' hX hY hm0 hm1 hm2 hm3 e1' Hg1
    go_wp2_with fail
    go_loopw [36] (fun v36 w' => ∃ q : Nat, q ≤ n ∧ v36 = .int .i64 (q : Int) ∧ Aside0 (((X.zip Y).take q).all okPair = true) ∧ wX = w') (fun i _ => n - (intOf i).toNat)
    case atStart => exact ⟨0, Nat.zero_le _, rfl, ⟨by simp⟩, rfl⟩
    case round =>
      obtain ⟨q, hq, rfl, HA, rfl⟩ := hrel
      by_cases hlt : q < n
      · have g0 : (0 : Int) ≤ q := by omega
        have g1 : (q : Int) < n := by omega
        obtain ⟨ad, A2, c2, e0, hx, hl, hC⟩ := at_ints HCX.out q (by omega) hXl.symm
        obtain ⟨bd, B2, d2, e1, hy, hl2, hC2⟩ := at_ints HCY.out q (by omega) hYl.symm
        cases e0
        cases e1
        have hwp : wrap64 ((q : Int) + 1) = (q : Int) + 1 := wrap_in (by omega) (by omega)
        have HX := Aside0.mk (zip_next X Y q (by omega) (by omega))
        have HF := Aside0.mk (zip_not X Y q (by omega) (by omega))
        obtain ⟨r, hr⟩ : ∃ r, r = X[q] := ⟨_, rfl⟩
        obtain ⟨s, hs⟩ : ∃ s, s = Y[q] := ⟨_, rfl⟩
        rw [← hr, ← hs] at HX HF
        rw [← hr] at hx hl hC
        rw [← hs] at hy hl2 hC2
        have hmr : r.length ≤ 9223372036854775807 := Kd.C_max hC
        have hms : s.length ≤ 9223372036854775807 := Kd.C_max hC2
        have HCr := Aside0.mk hC
        have HCs := Aside0.mk hC2
        have HLr := Aside0.mk hl
        have HLs := Aside0.mk hl2
        clear hr hs hC hC2 hl hl2
        by_cases er : r.length = s.length
        · have er' : ((r.length : Int) != (s.length : Int)) = false := by simp [er]
          have hrow : Aside0 (okPair (r, s) = (r.all isN && s.all isN)) := ⟨by unfold okPair; rw [decide_eq_true (p := r.length = s.length) er]; rfl⟩
          clear er
          go_wp2_with fail
          refine (HNm.out r A2 c2 _ HCr.out HLr.out).mono ?_
          rintro e w' ⟨rfl, rfl⟩
          cases hn1 : r.all isN with
          | false =>
            have HP2 : Aside0 (bothS ⟨x, y⟩ ⟨x', y'⟩ = false) := ⟨by rw [HP.out]; exact HF.out (by rw [hrow.out, hn1]; rfl)⟩
            go_wp2_with fail
            go_ret
            exact ⟨ret_b HP2.out.symm, HBzx.out, KeepBut.of_below HBx.out _ _, fun h => by rw [HP2.out] at h; cases h⟩
          | true =>
            go_wp2_with fail
            refine (HNm.out s B2 d2 _ HCs.out HLs.out).mono ?_
            rintro e w' ⟨rfl, rfl⟩
            cases hn2 : s.all isN with
            | false =>
              have HP2 : Aside0 (bothS ⟨x, y⟩ ⟨x', y'⟩ = false) := ⟨by rw [HP.out]; exact HF.out (by rw [hrow.out, hn1, hn2]; rfl)⟩
              go_wp2_with fail
              go_ret
              exact ⟨ret_b HP2.out.symm, HBzx.out, KeepBut.of_below HBx.out _ _, fun h => by rw [HP2.out] at h; cases h⟩
            | true =>
              have HX2 : Aside0 (((X.zip Y).take (q + 1)).all okPair = true) := ⟨by rw [HX.out, HA.out, hrow.out, hn1, hn2]; rfl⟩
              go_wp2_with fail
              go_roundw
              case rel => exact ⟨q + 1, by omega, by go_num, HX2, trivial⟩
              case measure => simp [intOf]; omega
        · have er' : ((r.length : Int) != (s.length : Int)) = true := by simp; omega
          have HP2 : Aside0 (bothS ⟨x, y⟩ ⟨x', y'⟩ = false) := ⟨by rw [HP.out]; exact HF.out (by unfold okPair; rw [decide_eq_false (p := r.length = s.length) er]; rfl)⟩
          clear er
          go_wp2_with fail
          go_ret
          exact ⟨ret_b HP2.out.symm, HBzx.out, KeepBut.of_below HBx.out _ _, fun h => by rw [HP2.out] at h; cases h⟩
      · obtain rfl : n = q := by omega
        rw [List.take_of_length_le (by rw [List.length_zip]; omega)] at HA
        clear hlt hq
        go_wp2_with fail
        go_loopw [65] (fun v65 w' => ∃ q : Nat, q ≤ n ∧ v65 = .int .i64 (q : Int) ∧ Aside0 (Inv wX (pu (X.zip Y) q) w')) (fun i _ => n - (intOf i).toNat)
        case atStart => exact ⟨0, Nat.zero_le _, rfl, ⟨HI0.out wX HBx.out⟩⟩
        case round =>
          obtain ⟨q, hq, rfl, HI⟩ := hrel
          by_cases hlt : q < n
          · have g0 : (0 : Int) ≤ q := by omega
            have g1 : (q : Int) < n := by omega
            obtain ⟨ad, A2, c2, e0, hl, hC, hcell⟩ := row_kept HO27.out hXl HKx.out Hgx.out q (by omega)
            obtain ⟨bd, B2, d2, e1, hl2, hC2, hcell2⟩ := row_kept HO33.out hYl HKy.out Hgx.out q (by omega)
            cases e0
            cases e1
            have hx := hcell _ (HIk.out _ _ _ HI.out).1
            have hwp : wrap64 ((q : Int) + 1) = (q : Int) + 1 := wrap_in (by omega) (by omega)
            have hmr : X[q].length ≤ 9223372036854775807 := Kd.C_max hC
            have HLe := Aside0.mk (zip_len X Y q (by omega) (by omega) HA.out)
            have HZ := Aside0.mk (pu_next (X.zip Y) q (by rw [List.length_zip]; omega))
            have HZl : Aside0 (∀ k, k < X[q].length → (pu (X.zip Y) q ++ (X[q].zip Y[q]).take k).length < ((X.zip Y).flatMap fun p => p.1.zip p.2).length) := ⟨fun k hk => by
              have := pu_len (X.zip Y) q k (by rw [List.length_zip]; omega) (by simp only [List.getElem_zip, List.length_zip]; rw [← HLe.out]; omega)
              simpa only [List.getElem_zip] using this⟩
            simp only [List.getElem_zip] at HZ
            obtain ⟨r, hr⟩ : ∃ r, r = X[q] := ⟨_, rfl⟩
            obtain ⟨s, hs⟩ : ∃ s, s = Y[q] := ⟨_, rfl⟩
            rw [← hr, ← hs] at HLe HZ HZl
            rw [← hr] at hx hC hmr hcell
            rw [← hs] at hC2 hcell2
            have HCr := Aside0.mk hC
            have HCs := Aside0.mk hC2
            have HK2 := Aside0.mk hcell2
            clear hr hs hC hl hl2 hC2 hcell hcell2
            go_wp2_with fail
            go_loopw [72] (fun v72 w' => ∃ k : Nat, k ≤ r.length ∧ v72 = .int .i64 (k : Int) ∧ Aside0 (Inv wX (pu (X.zip Y) q ++ (r.zip s).take k) w')) (fun i _ => r.length - (intOf i).toNat)
            case atStart => exact ⟨0, Nat.zero_le _, rfl, ⟨by rw [List.take_zero, List.append_nil]; exact HI.out⟩⟩
            case round =>
              obtain ⟨k, hk, rfl, HJ⟩ := hrel
              by_cases hkt : k < r.length
              · have k0 : (0 : Int) ≤ k := by omega
                have k1 : (k : Int) < r.length := by omega
                have k2 : (k : Int) < s.length := by rw [← HLe.out]; exact k1
                have hms : s.length ≤ 9223372036854775807 := by rw [← HLe.out]; exact hmr
                obtain ⟨rd_, e0, hrx⟩ := Kd.at_int (Kd.C_below HCr.out (HIk.out _ _ _ HJ.out).2) (k : Int) k0 k1
                obtain ⟨sd_, e1, hsx⟩ := Kd.at_int (Kd.C_below HCs.out (HIk.out _ _ _ HJ.out).2) (k : Int) k0 k2
                cases e0
                cases e1
                simp only [Int.toNat_natCast] at hrx hsx
                have hy := HK2.out _ (HIk.out _ _ _ HJ.out).1
                have hwk : wrap64 ((k : Int) + 1) = (k : Int) + 1 := wrap_in (by omega) (by omega)
                have HT := Aside0.mk (zip_take r s k hkt (by omega))
                have HNx := Aside0.mk (HSee.out wX _ (rd r (k : Int)) (rd s (k : Int)) _ HBx.out HJ.out (HZl.out k hkt))
                obtain ⟨rk, hrk⟩ : ∃ rk, rk = rd r (k : Int) := ⟨_, rfl⟩
                obtain ⟨sk, hsk⟩ : ∃ sk, sk = rd s (k : Int) := ⟨_, rfl⟩
                rw [← hrk] at hrx
                rw [← hsk] at hsx
                rw [← hrk, ← hsk] at HT HNx
                clear hrk hsk
                obtain rfl | rfl := Hf.out
                all_goals
                  go_wp2_with fail
                  refine HNx.out.mono ?_
                  rintro e w' ⟨rfl, hI⟩
                  have HJ2 : Aside0 (Inv wX (pu (X.zip Y) q ++ (r.zip s).take (k + 1)) w') := ⟨by rw [HT.out, ← List.append_assoc]; exact hI⟩
                  clear hI
                  go_wp2_with fail
                  go_roundw
                  case rel => exact ⟨k + 1, by omega, by go_num, HJ2⟩
                  case measure => simp [intOf]; omega
              · obtain rfl : r.length = k := by omega
                have HJ2 : Aside0 (Inv wX (pu (X.zip Y) (q + 1)) wr) := ⟨by rw [HZ.out]; have h := HJ.out; rw [List.take_of_length_le (by rw [List.length_zip]; omega)] at h; exact h⟩
                go_wp2_with fail
                go_roundw
                case rel => exact ⟨q + 1, by omega, by go_num, HJ2⟩
                case measure => simp [intOf]; omega
          · obtain rfl : n = q := by omega
            have HW' := Aside0.mk (HIk.out _ _ _ HI.out).2
            have HKp := Aside0.mk ((KeepBut.of_below HBx.out g none).trans (HIk.out _ _ _ HI.out).1 (.inl rfl))
            have HI2 : Aside0 (Inv wX (pairsS ⟨x, y⟩ ⟨x', y'⟩) wr) := ⟨by rw [HQ.out]; have h := HI.out; rw [pu, List.take_of_length_le (by rw [List.length_zip]; omega)] at h; exact h⟩
            have HP2 : Aside0 (bothS ⟨x, y⟩ ⟨x', y'⟩ = true) := ⟨by rw [HP.out]; exact HA.out⟩
            clear hlt hq
            go_wp2_with fail
            go_ret
            exact ⟨ret_b HP2.out.symm, HW'.out, HKp.out, fun _ => ⟨wX, HBx.out, HI2.out⟩⟩
  · have e1' : ((y.length : Int) != (y'.length : Int)) = true := by simp; omega
    have HP : Aside0 (bothS ⟨x, y⟩ ⟨x', y'⟩ = false) := ⟨by unfold bothS; rw [decide_eq_false (p := y.length = y'.length) e1]; rfl⟩
    clear e1
    go_enter Try.func22, Try.ntmps22
    go_wp2_with (first | ((with_reducible refine gate_dst (N := 3) rfl ?_); refine box_event ?hg (N := 3) ?hd (cs := #[.slice A0 x.length c0, .slice A1 y.length c1]) (t := 31) ?hr ?_; (case hd => rfl); (case hg => rfl); (case hr => first | (go_simp; done) | (go_simp; rfl)); intro g2 hg w1 hbox hb; have BK2 := Aside0.mk hbox; have HB := Aside0.mk hb; clear HB0 hg hbox hb) | ((with_reducible refine gate_dst (N := 4) rfl ?_); refine box_event ?hg (N := 4) ?hd (cs := #[.slice B0 x'.length d0, .slice B1 y'.length d1]) (t := 31) ?hr ?_; (case hd => rfl); (case hg => rfl); (case hr => first | (go_simp; done) | (go_simp; rfl)); intro g3 hg w2 hbox hb; have BK2_ := Aside0.mk (blk_below BK2.out hb); have BK3 := Aside0.mk hbox; have HB_ := Aside0.mk (HB.out.trans (hb.mono HB.out.size)); clear HB BK2 hg hbox hb; have BK2 := BK2_; have HB := HB_; clear BK2_ HB_; have hz0 : w2.cell? ⟨g2, 0, none⟩ = some (.slice A0 x.length c0) := (blk_cell BK2.out 0).trans rfl; have hz1 : w2.cell? ⟨g2, 1, none⟩ = some (.slice A1 y.length c1) := (blk_cell BK2.out 1).trans rfl; have hy0 : w2.cell? ⟨g3, 0, none⟩ = some (.slice B0 x'.length d0) := (blk_cell BK3.out 0).trans rfl; have hy1 : w2.cell? ⟨g3, 1, none⟩ = some (.slice B1 y'.length d1) := (blk_cell BK3.out 1).trans rfl))
    go_ret
    exact ⟨ret_b HP.out.symm, HWz.out.trans (HB.out.mono HWz.out.size), KeepBut.of_below HB.out _ _, fun h => by rw [HP.out] at h; cases h⟩
end Go.Proofs.Ytgemcomcjojjbaa.PS
