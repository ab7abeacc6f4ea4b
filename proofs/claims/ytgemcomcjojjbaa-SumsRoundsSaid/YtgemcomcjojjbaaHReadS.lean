/- The reader of package sums: summary (under way). No conditions. -/
import Derived.Test.YtgemcomcjojjbaaHReadN
import Derived.Test.YtgemcomcjojjbaaHClone
namespace Go.Proofs.Ytgemcomcjojjbaa.PS
open Go.RowKit Go.Proofs.YtgemcomcjojjbaaW.PrintWords Go.Proofs.YtgemcomcjojjbaaW.PrintLast Go.Proofs.YtgemcomcjojjbaaW.PrintMore
set_option linter.unusedVariables false
set_option linter.unusedSimpArgs false

def TAB_36.T5 : Bool × List (List Nat × List Nat) := (true, [([], []), ([0], [0]), ([], []), ([2], [2]), ([3], [3]), ([4], [4]), ([1, 5], [1, 5]), ([0, 1, 2, 3, 4, 5, 6], []), ([7, 6, 6, 0, 1, 2, 3, 4, 5, 6], [6, 7])])
def TAB_36.B5 : List Nat := [0, 1, 0, 4, 12, 28, 63, 127, 255]
theorem TAB_36.tab5 : rtab .any (opsOf Try.f36 5) = TAB_36.T5 := by kernel_rfl
theorem TAB_36.bits5 : waitsOk TAB_36.T5.2 TAB_36.B5 = true := by kernel_rfl
def TAB_36.T6 : Bool × List (List Nat × List Nat) := (true, [([], []), ([0], [0]), ([], []), ([2], [2]), ([3], [3]), ([4], [4]), ([1, 5, 4], [1, 5]), ([0, 1, 2, 3, 4, 5, 6], []), ([7, 6, 6, 0, 1, 2, 3, 4, 5, 6], [6, 7])])
def TAB_36.B6 : List Nat := [0, 1, 0, 4, 12, 28, 63, 127, 255]
theorem TAB_36.tab6 : rtab .any (opsOf Try.f36 6) = TAB_36.T6 := by kernel_rfl
theorem TAB_36.bits6 : waitsOk TAB_36.T6.2 TAB_36.B6 = true := by kernel_rfl
/-- The numbers of q parameters, m each: what stands in Heap, what in Result. -/
def headsR (m : Nat) (xs : List Int) (q : Nat) : List Int := (List.range q).map fun i => rd xs ((i * m : Nat) : Int)
def tailsR (m : Nat) (xs : List Int) (q : Nat) : List (List Int) := (List.range q).map fun i => (xs.drop (i * m + 1)).take (m - 1)
theorem heads_next (m : Nat) (xs : List Int) (q : Nat) : headsR m xs (q + 1) = headsR m xs q ++ [rd xs ((q * m : Nat) : Int)] := by
  unfold headsR
  rw [List.range_succ, List.map_append]
  rfl
theorem tails_next (m : Nat) (xs : List Int) (q : Nat) : tailsR m xs (q + 1) = tailsR m xs q ++ [(xs.drop (q * m + 1)).take (m - 1)] := by
  unfold tailsR
  rw [List.range_succ, List.map_append]
  rfl
/-- What holds ahead of each round of summary's loop. -/
def LoopR (Wz w : World) (g g3 g4 g5 : Nat) (cf : Array Value) (m : Nat) (xs : List Int) (q : Nat) (w' : World) : Prop :=
  ∃ (A : Option Addr) (c : Nat) (v0 v1 : Value), q * m ≤ xs.length ∧ (xs.take (q * m)).all isN = true ∧ w'.heap[g]? = some (.cells #[.slice A (xs.drop (q * m)).length c] 77 (0, 0)) ∧ kB.C Wz A (xs.drop (q * m)).length (xs.drop (q * m)) ∧ (xs.drop (q * m)).length ≤ c ∧
    w'.heap[g3]? = some (.cells cf 28 (0, 0)) ∧ w'.heap[g4]? = some (.cells #[.slice none 0 0, .slice none 0 0] 31 (0, 0)) ∧ w'.heap[g5]? = some (.cells #[v0, v1] 31 (0, 0)) ∧
    kI.R 3 w' w.heap.size (fun k => w.heap.size ≤ k) v0 (headsR m xs q) ∧ kL.R 22 w' w.heap.size (fun k => w.heap.size ≤ k ∧ some k ≠ v0.ownBlock) v1 (tailsR m xs q) ∧ Below Wz.heap.size Wz w' ∧ KeepBut w w' g none
set_option maxHeartbeats 8000000 in
set_option maxRecDepth 100000 in
theorem rds_any (g : Nat) (P m : Nat) (z : Int) (F : Option Addr) (nf cf : Nat) (xs : List Int) (A : Option Addr) (c : Nat) (Wz w : World) (hWz : Below Wz.heap.size Wz w) (hg : Wz.heap.size ≤ g) (hb : w.heap[g]? = some (.cells #[.slice A xs.length c] 77 (0, 0))) (hx : kB.C Wz A xs.length xs) (hc : xs.length ≤ c) (hP : P ≤ 8) (hm0 : 0 < m) (hm : m ≤ 5) (hr : ∀ x ∈ xs, 0 ≤ x ∧ x ≤ 255) :
    Calls Try.prog 36 #[.pointer (some ⟨g, 0, none⟩), .agg #[.int .i64 (P : Int), .int .i64 ((m : Int) - 1), .int .i64 z, .slice F nf cf]] w fun e w' =>
      ((P * m ≤ xs.length ∧ (xs.take (P * m)).all isN = true) → ∃ v0 v1 A' c', e = .returned (.agg #[v0, v1]) ∧ kI.R 3 w' w.heap.size (fun k => w.heap.size ≤ k) v0 (headsR m xs P) ∧ kL.R 22 w' w.heap.size (fun k => w.heap.size ≤ k) v1 (tailsR m xs P) ∧ w'.heap[g]? = some (.cells #[.slice A' (xs.drop (P * m)).length c'] 77 (0, 0)) ∧ kB.C Wz A' (xs.drop (P * m)).length (xs.drop (P * m)) ∧ (xs.drop (P * m)).length ≤ c') ∧
      (¬ (P * m ≤ xs.length ∧ (xs.take (P * m)).all isN = true) → e = .panicked [{ v := wrongV, recovered := false }]) ∧ Below Wz.heap.size Wz w' ∧ KeepBut w w' g none := by
  have HB0 := Aside0.mk (Below.refl w.heap.size w)
  have HBk := Aside0.mk hb
  have HGlt := Aside0.mk (blk_lt hb)
  have hw1 : wrap64 (1 + ((m : Int) - 1)) = (m : Int) := (wrap_in (x := 1 + ((m : Int) - 1)) (by omega) (by omega)).trans (by omega)
  have HX := Aside0.mk hx
  have HC := Aside0.mk hc
  have HWz := Aside0.mk hWz
  have Hg := Aside0.mk hg
  have Hr := Aside0.mk hr
  obtain ⟨R, hR⟩ : ∃ R, R = (m : Int) - 1 := ⟨_, rfl⟩
  rw [← hR] at hw1 ⊢
  clear hb hx hc hWz hg hr hR
  go_enter Try.func36, Try.ntmps36
  go_wp2_with (first | ((with_reducible refine gate_dst (N := 3) rfl ?_); refine box_event ?hg (N := 3) ?hd (cs := #[.int .i64 (P : Int), .int .i64 R, .int .i64 z, .slice F nf cf]) (t := 28) ?hr ?_; (case hd => rfl); (case hg => rfl); (case hr => first | (go_simp; done) | (go_simp; rfl)); intro g3 hg w1 hbox hb; have BK3 := Aside0.mk hbox; have HB := Aside0.mk hb; clear HB0 hg hbox hb) | ((with_reducible refine gate_dst (N := 4) rfl ?_); refine box_event ?hg (N := 4) ?hd (cs := #[.slice none 0 0, .slice none 0 0]) (t := 31) ?hr ?_; (case hd => rfl); (case hg => rfl); (case hr => first | (go_simp; done) | (go_simp; rfl)); intro g4 hg w2 hbox hb; have HG4 : Aside0 (w.heap.size ≤ g4) := ⟨by have := HB.out.size; omega⟩; have BK3_ := Aside0.mk (blk_below BK3.out hb); have BK4 := Aside0.mk hbox; have HB_ := Aside0.mk (HB.out.trans (hb.mono HB.out.size)); clear HB BK3 hg hbox hb; have BK3 := BK3_; have HB := HB_; clear BK3_ HB_) | ((with_reducible refine gate_dst (N := 5) rfl ?_); refine box_event ?hg (N := 5) ?hd (cs := #[.slice none 0 0, .slice none 0 0]) (t := 31) ?hr ?_; (case hd => rfl); (case hg => rfl); (case hr => first | (go_simp; done) | (go_simp; rfl)); intro g5 hg w5 hbox hb; have HG5 : Aside0 (w.heap.size ≤ g5) := ⟨by have := HB.out.size; omega⟩; have N35 : Aside0 (g3 ≠ g5) := ⟨fun e => by have := blk_lt BK3.out; omega⟩; have N45 : Aside0 (g4 ≠ g5) := ⟨fun e => by have := blk_lt BK4.out; omega⟩; have BK3_ := Aside0.mk (blk_below BK3.out hb); have BK4_ := Aside0.mk (blk_below BK4.out hb); have BK5 := Aside0.mk hbox; have HB_ := Aside0.mk (HB.out.trans (hb.mono HB.out.size)); clear HB BK3 BK4 hg hbox hb; have BK3 := BK3_; have BK4 := BK4_; have HB := HB_; clear BK3_ BK4_ HB_; have hz0 : w5.cell? ⟨g3, 0, none⟩ = some (.int .i64 (P : Int)) := (blk_cell BK3.out 0).trans rfl))
  clear hz0
  have HLp : Aside0 (LoopR Wz w g g3 g4 g5 #[.int .i64 (P : Int), .int .i64 R, .int .i64 z, .slice F nf cf] m xs 0 w5) := ⟨A, c, .slice none 0 0, .slice none 0 0, by omega, by simp, by simpa using blk_below HBk.out HB.out, by simpa using HX.out, by simpa using HC.out, BK3.out, BK4.out, BK5.out, Kd.R_nil _ _ _ _ _, Kd.R_nil _ _ _ _ _, HWz.out.trans (HB.out.mono HWz.out.size), KeepBut.of_below HB.out _ _⟩
  go_loopw [9] (fun v9 w' => ∃ q : Nat, q ≤ P ∧ v9 = .int .i64 (q : Int) ∧ Aside0 (LoopR Wz w g g3 g4 g5 #[.int .i64 (P : Int), .int .i64 R, .int .i64 z, .slice F nf cf] m xs q w')) (fun i _ => P - (intOf i).toNat)
  case atStart => exact ⟨0, Nat.zero_le _, rfl, HLp⟩
  case round =>
    obtain ⟨q, hq, rfl, HI⟩ := hrel
    clear HLp HX HC HBk BK3 BK4 BK5 HB
    obtain ⟨A', c', v0, v1, hqm, hall, hbk, hC, hc', h3, h4, h5, hR0, hR1, hZ, hKp⟩ := HI.out
    have K := Aside0.mk hbk
    have HCx := Aside0.mk hC
    have HCl := Aside0.mk hc'
    have K3 := Aside0.mk h3
    have K4 := Aside0.mk h4
    have K5 := Aside0.mk h5
    have HR0 := Aside0.mk hR0
    have HR1 := Aside0.mk hR1
    have HZ := Aside0.mk hZ
    have HKp := Aside0.mk hKp
    have HQm := Aside0.mk hqm
    have HAll := Aside0.mk hall
    clear hqm hall hbk hC hc' h3 h4 h5 hR0 hR1 hZ hKp HI
    by_cases hlt : q < P
    · have hwp : wrap64 ((q : Int) + 1) = (q : Int) + 1 := wrap_in (by omega) (by omega)
      have q1 : (q : Int) < (P : Int) := by omega
      have hz1 : wr.cell? ⟨g3, 1, none⟩ = some (.int .i64 R) := (blk_cell K3.out 1).trans rfl
      have HPm : Aside0 (q * m + m ≤ P * m) := ⟨by rw [← Nat.succ_mul]; exact Nat.mul_le_mul_right m hlt⟩
      have HDl : Aside0 ((xs.drop (q * m)).length = xs.length - q * m) := ⟨List.length_drop⟩
      obtain ⟨D, hD⟩ : ∃ D, D = xs.drop (q * m) := ⟨_, rfl⟩
      have HD := Aside0.mk hD
      rw [← hD] at K HCx HCl HDl
      clear hD
      by_cases hlen : D.length < m
      · have hno : Aside0 (¬ (P * m ≤ xs.length ∧ (xs.take (P * m)).all isN = true)) := ⟨fun h => by have h1 := HDl.out; have h2 := HPm.out; have h3 := HQm.out; have h4 := h.1; omega⟩
        have HRm := Aside0.mk (rdn_more g m D A' c' wr K.out hlen (by omega))
        clear hlen
        go_wp2_with fail
        refine HRm.out.mono ?_
        rintro e w' ⟨rfl, hb⟩
        have HZn := Aside0.mk (HZ.out.trans (hb.mono HZ.out.size))
        have HKn := Aside0.mk (HKp.out.trans (KeepBut.of_below hb g none) (.inl rfl))
        clear hb
        go_wp2_with fail
        exact ⟨rfl, fun h => absurd h hno.out, fun _ => rfl, HZn.out, HKn.out⟩
      · have HRm := Aside0.mk (rdn_some g m D A' c' Wz wr HZ.out Hg.out K.out HCx.out HCl.out (by omega) hm0 (by omega) (fun x hx => Hr.out x (by rw [HD.out] at hx; exact List.mem_of_mem_drop hx)))
        have HTk : Aside0 ((xs.take (q * m + m)).all isN = (D.take m).all isN) := ⟨by rw [List.take_add, List.all_append, HAll.out, HD.out]; rfl⟩
        go_wp2_with fail
        refine HRm.out.mono ?_
        rintro e w8 ⟨hno, hyes, hb, hk⟩
        cases hA : (D.take m).all isN with
        | false =>
          have hno2 : Aside0 (¬ (P * m ≤ xs.length ∧ (xs.take (P * m)).all isN = true)) := ⟨fun h => by
            have h1 := h.2
            rw [List.all_eq_true] at h1
            have h2 : (xs.take (q * m + m)).all isN = true := by
              rw [List.all_eq_true]
              intro x hx
              refine h1 x ?_
              have e : xs.take (q * m + m) = (xs.take (P * m)).take (q * m + m) := by rw [List.take_take, Nat.min_eq_left HPm.out]
              rw [e] at hx
              exact List.mem_of_mem_take hx
            rw [HTk.out, hA] at h2
            cases h2⟩
          obtain rfl := hno hA
          have HZn := Aside0.mk hb
          have HKn := Aside0.mk (HKp.out.trans hk (.inl rfl))
          clear hno hyes hb hk
          go_wp2_with fail
          exact ⟨rfl, fun h => absurd h hno2.out, fun _ => rfl, HZn.out, HKn.out⟩
        | true =>
          obtain ⟨v6, A9, c9, rfl, hRl, hK9, hC9, hc9⟩ := hyes hA
          obtain ⟨lr, hlr⟩ : ∃ lr, lr = D.take m := ⟨_, rfl⟩
          have HLr := Aside0.mk hlr
          rw [← hlr] at hRl
          have hlm : lr.length = m := by rw [hlr, List.length_take]; omega
          obtain ⟨gl, cl, rfl, hglb, _⟩ := Kd.R_form hRl (by omega)
          have HRl := Aside0.mk hRl
          have HGl := Aside0.mk hglb
          have K9 := Aside0.mk hK9
          have HC9 := Aside0.mk hC9
          have Hc9 := Aside0.mk hc9
          have HZ8 := Aside0.mk hb
          have HK8 := Aside0.mk hk
          have HP8 := Aside0.mk (HKp.out.trans hk (.inl rfl))
          have G3 := Aside0.mk (blk_lt K3.out)
          have E3 := Aside0.mk (hk.blk K3.out (blk_ne K3.out K.out (by decide)) (by simp))
          have E4 := Aside0.mk (hk.blk K4.out (blk_ne K4.out K.out (by decide)) (by simp))
          have E5 := Aside0.mk (hk.blk K5.out (blk_ne K5.out K.out (by decide)) (by simp))
          have HDl0 : Aside0 (m ≤ xs.length - q * m) := ⟨by have := HDl.out; omega⟩
          clear hno hyes hb hk hlr hRl hglb hK9 hC9 hc9 hlen HRm
          have R0 := Aside0.mk (Kd.R_keep HR0.out HK8.out (fun k hk e => by have := HGlt.out; omega))
          have R1 := Aside0.mk (Kd.R_keep HR1.out HK8.out (fun k hk e => by have := HGlt.out; have := hk.1; omega))
          have HVlt := Aside0.mk (Kd.R_lt HR0.out)
          clear HR0 HR1 K3 K4 K5 K HCx HCl HZ HKp HK8 hz1
          obtain ⟨A0_, c0_, rfl⟩ := Kd.R_slice R0.out
          obtain ⟨A1_, c1_, rfl⟩ := Kd.R_slice R1.out
          obtain ⟨hd, hhd⟩ : ∃ hd, hd = headsR m xs q := ⟨_, rfl⟩
          obtain ⟨tl, htl⟩ : ∃ tl, tl = tailsR m xs q := ⟨_, rfl⟩
          have Hhd := Aside0.mk hhd
          have Htl := Aside0.mk htl
          have Hhl : Aside0 (hd.length ≤ 8) := ⟨by rw [hhd, headsR, List.length_map, List.length_range]; omega⟩
          have Htll : Aside0 (tl.length ≤ 8) := ⟨by rw [htl, tailsR, List.length_map, List.length_range]; omega⟩
          rw [← hhd] at R0 E5 HVlt R1
          rw [← htl] at R1 E5
          clear hhd htl
          have hl1 : (0 : Int) < (lr.length : Int) := by omega
          have hs0 : w8.cell? ⟨g5, 0, none⟩ = some (.slice A0_ hd.length c0_) := (blk_cell E5.out 0).trans rfl
          have hs1 : w8.cell? ⟨gl, 0, none⟩ = some (.int .i64 (rd lr 0)) := (Kd.R_celln 0 HRl.out 0 (Int.le_refl 0) (by omega)).1
          obtain ⟨l0, hl0⟩ : ∃ l0, l0 = rd lr 0 := ⟨_, rfl⟩
          have HL0 := Aside0.mk hl0
          rw [← hl0] at hs1
          clear hl0
          have HSz8 : Aside0 (w.heap.size ≤ w8.drew.heap.size) := ⟨HP8.out.1⟩
          have E5d : Aside0 (w8.drew.heap[g5]? = some (.cells #[.slice A0_ hd.length c0_, .slice A1_ tl.length c1_] 31 (0, 0))) := ⟨E5.out⟩
          go_wp2_with fail
          refine start_ (n := 9) (S := fun w' => w'.cell? ⟨g5, 0, none⟩ = some (.slice A0_ hd.length c0_) ∧ w'.cell? ⟨gl, 0, none⟩ = some (.int .i64 l0)) (ds := [8]) #[false, false, false, false, false, false, false, false, false] (by kernel_rfl) rfl rfl ⟨hs0, hs1⟩ (fun hHeld => ?_)
          refine with_tabW TAB_36.tab5 TAB_36.bits5 (fun HT_ HW_ => ?_)
          refine pure_ (i := 0) (N := some 16) (v := ?_) (a' := ?_) #[true, false, false, false, false, false, false, false, false] rfl rfl (any_of HT_.out (by kernel_rfl)) (fun _ _ _ h => h) (Or.inl ⟨by rfl, ?_⟩) ?_ ?_
          rotate_left
          · intro w'
            go_simp
            with_reducible rfl
          rotate_left
          · simp only [Act.put, List.setIfInBounds_toArray, List.set_cons_zero, List.set_cons_succ, i64_w, i32_w]
            rfl
          refine pure_ (i := 2) (N := some 18) (v := ?_) (a' := ?_) #[true, false, true, false, false, false, false, false, false] rfl rfl (any_of HT_.out (by kernel_rfl)) (fun _ _ _ h => h) (Or.inl ⟨by rfl, ?_⟩) ?_ ?_
          rotate_left
          · intro w'
            go_simp
            with_reducible rfl
          rotate_left
          · simp only [Act.put, List.setIfInBounds_toArray, List.set_cons_zero, List.set_cons_succ, i64_w, i32_w]
            rfl
          refine pure_ (i := 3) (N := some 19) (v := ?_) (a' := ?_) #[true, false, true, true, false, false, false, false, false] rfl rfl (any_of HT_.out (by kernel_rfl)) (fun _ _ _ h => h) (Or.inl ⟨by rfl, ?_⟩) ?_ ?_
          rotate_left
          · intro w'
            go_simp
            with_reducible rfl
          rotate_left
          · simp only [Act.put, List.setIfInBounds_toArray, List.set_cons_zero, List.set_cons_succ, i64_w, i32_w]
            rfl
          refine take_ (i := 1) (N := some 17) (v := ?_) (a' := ?_) #[true, true, true, true, false, false, false, false, false] rfl rfl (take_ofW HT_.out HW_.out (by kernel_rfl)) (fun _ _ _ h => h) (Or.inl ⟨by rfl, ?_⟩) hHeld ?_ ?_
          rotate_left
          · rintro w' ⟨s0, s1⟩
            go_simp
            with_reducible rfl
          rotate_left
          · simp only [Act.put, List.setIfInBounds_toArray, List.set_cons_zero, List.set_cons_succ, i64_w, i32_w]
            rfl
          refine take_ (i := 4) (N := some 20) (v := ?_) (a' := ?_) #[true, true, true, true, true, false, false, false, false] rfl rfl (take_ofW HT_.out HW_.out (by kernel_rfl)) (fun _ _ _ h => h) (Or.inl ⟨by rfl, ?_⟩) hHeld ?_ ?_
          rotate_left
          · rintro w' ⟨s0, s1⟩
            go_simp
            with_reducible rfl
          rotate_left
          · simp only [Act.put, List.setIfInBounds_toArray, List.set_cons_zero, List.set_cons_succ, i64_w, i32_w]
            rfl
          refine one_ (i := 5) (N := some 21) #[true, true, true, true, true, true, false, false, false] rfl rfl (one_of HT_.out (by kernel_rfl)) (by decide) (fun K hK => ?_)
          refine value_ (w1 := ?_) (v := ?_) (by rfl) rfl ?_ ?_
          rotate_left 2
          · go_simp
            constructor
            · rfl
            · rfl
          show K _ (World.alloc w8.drew (Obj.cells #[Value.int IntKind.i64 l0] 3))
          refine hK.out _ _ ⟨pw_cell_below (below_alloc (Below.refl _ _) _) hs0, pw_cell_below (below_alloc (Below.refl _ _) _) hs1⟩ (fun hHeld => ?_)
          clear hK K
          refine norm_ (a' := ?_) ?_ ?_
          rotate_left
          · show Act.put _ (some 21) _ = _
            simp only [Act.put, List.setIfInBounds_toArray, List.set_cons_zero, List.set_cons_succ, i64_w, i32_w]
            rfl
          refine one_ (i := 6) (N := some 22) #[true, true, true, true, true, true, true, false, false] rfl rfl (one_of HT_.out (by kernel_rfl)) (by decide) (fun K hK => ?_)
          refine Kd.R_append_step (Kd.int .i64) (w0 := w8.drew) w.heap.size (by rfl) (.tmp 17) (.tmp 21) 22 3 (.int .i64 0) 8 (by rfl) Try.underlying22 info3 (by rfl) (by decide) (by omega) (.slice A0_ hd.length c0_) hd l0 [.int .i64 l0] (fun k => w.heap.size ≤ k) (fun _ => False) (by rfl) (by rfl) ?aP (fun _ hk => hk.elim) ?aF ?aO ?aB ?aS ?aL ?_
          case aP => exact rfl
          case aF => exact fun k hk => Nat.le_trans HSz8.out hk
          case aO => exact Kd.R_drew R0.out
          case aB => exact Below.refl _ _
          case aS => exact HSz8.out
          case aL => have := Hhl.out; omega
          intro v1 w11 ho hb hg hat
          obtain ⟨h2, hh2⟩ : ∃ h2, h2 = hd ++ [l0] := ⟨_, rfl⟩
          rw [← hh2] at ho
          have HH2 := Aside0.mk hh2
          clear hh2
          obtain ⟨A2_, c2_, rfl⟩ := Kd.R_slice ho
          have F5 := Aside0.mk (blk_grown E5d.out hg (Kd.R_ne (Kd.R_drew R0.out) E5d.out (by decide)))
          have F3 := Aside0.mk (blk_grown (blk_drew E3.out) hg (Kd.R_ne (Kd.R_drew R0.out) (blk_drew E3.out) (by decide)))
          have F4 := Aside0.mk (blk_grown (blk_drew E4.out) hg (Kd.R_ne (Kd.R_drew R0.out) (blk_drew E4.out) (by decide)))
          have FK := Aside0.mk (blk_grown (blk_drew K9.out) hg (Kd.R_ne (Kd.R_drew R0.out) (blk_drew K9.out) (by decide)))
          have FL := Aside0.mk (Kd.R_grown (Kd.R_drew HRl.out) hg (fun k hk e => by have := HVlt.out k e.symm; omega))
          have FR := Aside0.mk (Kd.R_after (Kd.R_drew R1.out) hg hat)
          have F0 := Aside0.mk ho
          have FB := Aside0.mk hb
          have FLc := (Kd.R_celln 0 FL.out 0 (Int.le_refl 0) (by omega)).1
          clear ho hb hg hat
          refine hK.out _ _ ⟨(blk_cell F5.out 0).trans rfl, FLc.trans (by rw [HL0.out]; rfl)⟩ (fun hHeld => ?_)
          clear hK K
          refine norm_ (a' := ?_) ?_ ?_
          rotate_left
          · show Act.put _ (some 22) _ = _
            simp only [Act.put, List.setIfInBounds_toArray, List.set_cons_zero, List.set_cons_succ, i64_w, i32_w]
            rfl
          refine pure_ (i := 7) (N := some 23) (v := ?_) (a' := ?_) #[true, true, true, true, true, true, true, true, false] rfl rfl (any_of HT_.out (by kernel_rfl)) (fun _ _ _ h => h) (Or.inl ⟨by rfl, ?_⟩) ?_ ?_
          rotate_left
          · intro w'
            go_simp
            with_reducible rfl
          rotate_left
          · simp only [Act.put, List.setIfInBounds_toArray, List.set_cons_zero, List.set_cons_succ, i64_w, i32_w]
            rfl
          refine last_ (i := 8) (N := none) #[true, true, true, true, true, true, true, true, true] rfl rfl (one_of HT_.out (by kernel_rfl)) (by decide) (fun K hK => ?_)
          have hcz : w11.cell? ⟨g5, 0, none⟩ = some (.slice A0_ hd.length c0_) := (blk_cell F5.out 0).trans rfl
          have hfz := blk_frozen F5.out 0
          refine skip_ (w1 := ?_) (by rfl) rfl ?_ ?_
          rotate_left
          · go_simp
            rfl
          clear hcz hfz
          refine hK.out _ _ ?_
          clear hK K
          refine done_ (done_of HT_.out (by kernel_rfl)) ?_

          clear HT_ HW_
          have NK5 : Aside0 (g ≠ g5) := ⟨blk_ne FK.out F5.out (by decide)⟩
          have G5 := Aside0.mk ((blk_set F5.out 0 (.slice A2_ h2.length c2_)).trans rfl : _ = some (Obj.cells #[Value.slice A2_ h2.length c2_, Value.slice A1_ tl.length c1_] 31 (0, 0)))
          have G3' := Aside0.mk (blk_far F3.out (p := ⟨g5, 0, none⟩) N35.out (.slice A2_ h2.length c2_))
          have G4' := Aside0.mk (blk_far F4.out (p := ⟨g5, 0, none⟩) N45.out (.slice A2_ h2.length c2_))
          have GK := Aside0.mk (blk_far FK.out (p := ⟨g5, 0, none⟩) NK5.out (.slice A2_ h2.length c2_))
          have GL := Aside0.mk (Kd.R_set FL.out F5.out (by decide) 0 (.slice A2_ h2.length c2_))
          have GR := Aside0.mk (Kd.R_set FR.out F5.out (by decide) 0 (.slice A2_ h2.length c2_))
          have G0 := Aside0.mk (Kd.R_set F0.out F5.out (by decide) 0 (.slice A2_ h2.length c2_))
          have GZ : Aside0 (Below Wz.heap.size Wz (w11.setCell ⟨g5, 0, none⟩ (.slice A2_ h2.length c2_))) := ⟨below_set ((HZ8.out.drew).trans (FB.out.mono HWz.out.size)) (Nat.le_trans HWz.out.size HG5.out)⟩
          have GP : Aside0 (KeepBut w (w11.setCell ⟨g5, 0, none⟩ (.slice A2_ h2.length c2_)) g none) := ⟨keep_below (keep_below (keep_below HP8.out (below_drew (Below.refl w.heap.size w8))) FB.out) ((Below.refl w.heap.size _).setCell (p := ⟨g5, 0, none⟩) HG5.out (.slice A2_ h2.length c2_))⟩
          obtain ⟨wE, hwE⟩ : ∃ wE, wE = w11.setCell ⟨g5, 0, none⟩ (.slice A2_ h2.length c2_) := ⟨_, rfl⟩
          rw [← hwE] at G5 G3' G4' GK GL GR G0 GZ GP ⊢
          clear hwE F5 F3 F4 FK FL FR F0 FB FLc E3 E4 E5 E5d R0 R1 HRl K9 HP8 HZ8 hs0 hs1 HVlt HSz8
          have GL1 : Aside0 (kI.R 3 wE wr.heap.size (fun k => wr.heap.size ≤ k) (.slice (some ⟨gl, 0, none⟩) lr.length cl) lr) := ⟨GL.out⟩
          have hQd := Kd.Q_drop (Kd.Q_of_R GL1.out) (k := 1) (by omega)
          obtain ⟨dr, hdr⟩ : ∃ dr, dr = lr.drop 1 := ⟨_, rfl⟩
          have hdl : dr.length = m - 1 := by rw [hdr, List.length_drop, hlm]
          have HDr := Aside0.mk hdr
          have HDl : Aside0 (dr.length ≤ 5) := ⟨by omega⟩
          rw [← hdr] at hQd
          have hAe : (if cl = 1 then some (⟨gl, 0, none⟩ : Addr) else Option.map (fun x : Addr => x.add (1 * (Kd.int .i64).sz)) (some (⟨gl, 0, none⟩ : Addr))) = (if cl = 1 then some (⟨gl, 0, none⟩ : Addr) else some ⟨gl, 1, none⟩) := by split; rfl; exact congrArg some (add_plain gl 1)
          have HCl : Aside0 (Calls Try.prog 29 #[.slice (if cl = 1 then some (⟨gl, 0, none⟩ : Addr) else some ⟨gl, 1, none⟩) (m - 1) (cl - 1)] wE.drew fun e w' => ∃ v, e = .returned v ∧ kI.R 3 w' wE.drew.heap.size (fun k => wE.drew.heap.size ≤ k) v dr ∧ Below wE.drew.heap.size wE.drew w') := ⟨by
            have hr := Kd.Q_reads' hQd
            rw [← hdl, ← hAe]
            exact clone_any dr _ (cl - 1) wE.drew (Kd.C_drew hr.2.2) (by have := hr.2.1; omega) (by have := HDl.out; omega)⟩
          have h1m : (1 : Int) ≤ (m : Int) := by omega
          clear hQd hAe hdl
          have hs5 : wE.cell? ⟨g5, 1, none⟩ = some (.slice A1_ tl.length c1_) := (blk_cell G5.out 1).trans rfl
          have hl2 : (1 : Int) ≤ (lr.length : Int) := by omega
          clear hdr
          go_wp2_with fail
          refine start_ (n := 9) (S := fun w' => w'.cell? ⟨g5, 1, none⟩ = some (.slice A1_ tl.length c1_)) (ds := [8]) #[false, false, false, false, false, false, false, false, false] (by kernel_rfl) rfl rfl (hs5) (fun hHeld => ?_)
          refine with_tabW TAB_36.tab6 TAB_36.bits6 (fun HT_ HW_ => ?_)
          refine pure_ (i := 0) (N := some 24) (v := ?_) (a' := ?_) #[true, false, false, false, false, false, false, false, false] rfl rfl (any_of HT_.out (by kernel_rfl)) (fun _ _ _ h => h) (Or.inl ⟨by rfl, ?_⟩) ?_ ?_
          rotate_left
          · intro w'
            go_simp
            with_reducible rfl
          rotate_left
          · simp only [Act.put, List.setIfInBounds_toArray, List.set_cons_zero, List.set_cons_succ, i64_w, i32_w]
            rfl
          refine pure_ (i := 2) (N := some 26) (v := ?_) (a' := ?_) #[true, false, true, false, false, false, false, false, false] rfl rfl (any_of HT_.out (by kernel_rfl)) (fun _ _ _ h => h) (Or.inl ⟨by rfl, ?_⟩) ?_ ?_
          rotate_left
          · intro w'
            go_simp
            with_reducible rfl
          rotate_left
          · simp only [Act.put, List.setIfInBounds_toArray, List.set_cons_zero, List.set_cons_succ, i64_w, i32_w]
            rfl
          refine pure_ (i := 3) (N := some 27) (v := ?_) (a' := ?_) #[true, false, true, true, false, false, false, false, false] rfl rfl (any_of HT_.out (by kernel_rfl)) (fun _ _ _ h => h) (Or.inl ⟨by rfl, ?_⟩) ?_ ?_
          rotate_left
          · intro w'
            go_simp
            with_reducible rfl
          rotate_left
          · simp only [Act.put, List.setIfInBounds_toArray, List.set_cons_zero, List.set_cons_succ, i64_w, i32_w]
            rfl
          refine take_ (i := 1) (N := some 25) (v := ?_) (a' := ?_) #[true, true, true, true, false, false, false, false, false] rfl rfl (take_ofW HT_.out HW_.out (by kernel_rfl)) (fun _ _ _ h => h) (Or.inl ⟨by rfl, ?_⟩) hHeld ?_ ?_
          rotate_left
          · intro w' s0
            go_simp
            with_reducible rfl
          rotate_left
          · simp only [Act.put, List.setIfInBounds_toArray, List.set_cons_zero, List.set_cons_succ, i64_w, i32_w]
            rfl
          refine one_ (i := 4) (N := some 28) #[true, true, true, true, true, false, false, false, false] rfl rfl (one_of HT_.out (by kernel_rfl)) (by decide) (fun K hK => ?_)
          refine goes_ Try.func29 (by kernel_rfl) rfl #[.slice (if cl = 1 then some (⟨gl, 0, none⟩ : Addr) else some ⟨gl, 1, none⟩) (m - 1) (cl - 1)] (by rfl) rfl rfl (by simp only [List.map_toArray, List.map_cons, List.map_nil]; rfl) ?_
          with_reducible refine (HCl.out).mono ?_
          rintro e_ wc ⟨v28, rfl, hRv, hBv⟩
          refine ⟨_, rfl, ?_⟩
          obtain ⟨A28, c28, rfl⟩ := Kd.R_slice hRv
          have HRv := Aside0.mk hRv
          have HBv : Aside0 (Below wE.heap.size wE wc) := ⟨(below_drew (Below.refl wE.heap.size wE)).trans hBv⟩
          clear hRv hBv
          refine hK.out _ _ (pw_cell_below HBv.out hs5) (fun hHeld => ?_)
          clear hK K
          refine norm_ (a' := ?_) ?_ ?_
          rotate_left
          · show Act.put _ (some 28) _ = _
            simp only [Act.put, List.setIfInBounds_toArray, List.set_cons_zero, List.set_cons_succ, i64_w, i32_w]
            rfl
          refine one_ (i := 5) (N := some 29) #[true, true, true, true, true, true, false, false, false] rfl rfl (one_of HT_.out (by kernel_rfl)) (by decide) (fun K hK => ?_)
          refine value_ (w1 := ?_) (v := ?_) (by rfl) rfl ?_ ?_
          rotate_left 2
          · go_simp
            constructor
            · rfl
            · rfl
          show K _ (World.alloc wc (Obj.cells #[Value.slice A28 dr.length c28] 22))
          refine hK.out _ _ (pw_cell_below (below_alloc (Below.refl _ _) _) (pw_cell_below HBv.out hs5)) (fun hHeld => ?_)
          clear hK K
          refine norm_ (a' := ?_) ?_ ?_
          rotate_left
          · show Act.put _ (some 29) _ = _
            simp only [Act.put, List.setIfInBounds_toArray, List.set_cons_zero, List.set_cons_succ, i64_w, i32_w]
            rfl
          refine one_ (i := 6) (N := some 30) #[true, true, true, true, true, true, true, false, false] rfl rfl (one_of HT_.out (by kernel_rfl)) (by decide) (fun K hK => ?_)
          refine Kd.R_append_step kL (w0 := wc) w.heap.size (by rfl) (.tmp 25) (.tmp 29) 29 22 (.slice none 0 0) 24 (by rfl) Try.underlying29 info22 (by rfl) (by decide) (by omega) (.slice A1_ tl.length c1_) tl dr [.slice A28 dr.length c28] (fun k => w.heap.size ≤ k ∧ some k ≠ (Value.slice A2_ h2.length c2_).ownBlock) (fun k => wE.heap.size ≤ k) (by rfl) (by rfl) ?aP ?aK ?aF ?aO ?aB ?aS ?aL ?_
          case aP => exact Kd.M_row (Kd.R_lower HRv.out GP.out.1)
          case aK => exact fun k hk => ⟨⟨Nat.le_trans GP.out.1 hk, fun e => by have := Kd.R_lt G0.out k e.symm; omega⟩, fun e => by have := Kd.R_lt GR.out k e.symm; omega⟩
          case aF => exact fun k hk => ⟨Nat.le_trans GP.out.1 (Nat.le_trans HBv.out.size hk), fun e => by have h1 := Kd.R_lt G0.out k e.symm; have h2 := HBv.out.size; omega⟩
          case aO => exact Kd.R_below GR.out HBv.out
          case aB => exact Below.refl _ _
          case aS => exact Nat.le_trans GP.out.1 HBv.out.size
          case aL => have := Htll.out; omega
          intro v1 wS ho hb hg hat
          obtain ⟨t2, ht2⟩ : ∃ t2, t2 = tl ++ [dr] := ⟨_, rfl⟩
          rw [← ht2] at ho
          have HT2 := Aside0.mk ht2
          clear ht2
          obtain ⟨A3_, c3_, rfl⟩ := Kd.R_slice ho
          have GRc := Aside0.mk (Kd.R_below GR.out HBv.out)
          have J5 := Aside0.mk (blk_grown (blk_below G5.out HBv.out) hg (Kd.R_ne GRc.out (blk_below G5.out HBv.out) (by decide)))
          have J3 := Aside0.mk (blk_grown (blk_below G3'.out HBv.out) hg (Kd.R_ne GRc.out (blk_below G3'.out HBv.out) (by decide)))
          have J4 := Aside0.mk (blk_grown (blk_below G4'.out HBv.out) hg (Kd.R_ne GRc.out (blk_below G4'.out HBv.out) (by decide)))
          have JK := Aside0.mk (blk_grown (blk_below GK.out HBv.out) hg (Kd.R_ne GRc.out (blk_below GK.out HBv.out) (by decide)))
          have J0 := Aside0.mk (Kd.R_over (Kd.R_below G0.out HBv.out) GRc.out (by decide) hg)
          have JR := Aside0.mk ho
          have JB := Aside0.mk hb
          clear ho hb hg hat
          refine hK.out _ _ ((blk_cell J5.out 1).trans rfl) (fun hHeld => ?_)
          clear hK K
          refine norm_ (a' := ?_) ?_ ?_
          rotate_left
          · show Act.put _ (some 30) _ = _
            simp only [Act.put, List.setIfInBounds_toArray, List.set_cons_zero, List.set_cons_succ, i64_w, i32_w]
            rfl
          refine pure_ (i := 7) (N := some 31) (v := ?_) (a' := ?_) #[true, true, true, true, true, true, true, true, false] rfl rfl (any_of HT_.out (by kernel_rfl)) (fun _ _ _ h => h) (Or.inl ⟨by rfl, ?_⟩) ?_ ?_
          rotate_left
          · intro w'
            go_simp
            with_reducible rfl
          rotate_left
          · simp only [Act.put, List.setIfInBounds_toArray, List.set_cons_zero, List.set_cons_succ, i64_w, i32_w]
            rfl
          refine last_ (i := 8) (N := none) #[true, true, true, true, true, true, true, true, true] rfl rfl (one_of HT_.out (by kernel_rfl)) (by decide) (fun K hK => ?_)
          have hcz : wS.cell? ⟨g5, 1, none⟩ = some (.slice A1_ tl.length c1_) := (blk_cell J5.out 1).trans rfl
          have hfz := blk_frozen J5.out 1
          refine skip_ (w1 := ?_) (by rfl) rfl ?_ ?_
          rotate_left
          · go_simp
            rfl
          clear hcz hfz
          refine hK.out _ _ ?_
          clear hK K
          refine done_ (done_of HT_.out (by kernel_rfl)) ?_

          clear HT_ HW_
          have e1 : (q + 1) * m = q * m + m := Nat.succ_mul q m
          have ed : xs.drop ((q + 1) * m) = D.drop m := by rw [e1, HD.out, List.drop_drop]
          have e0 : rd lr 0 = rd xs ((q * m : Nat) : Int) := by
            rw [HLr.out, HD.out]
            unfold rd
            rw [Int.toNat_natCast, List.getD_eq_getElem?_getD, List.getD_eq_getElem?_getD, show ((0 : Int).toNat) = 0 from rfl, List.getElem?_take_of_lt hm0, List.getElem?_drop, Nat.add_zero]
          have eh : headsR m xs (q + 1) = h2 := by rw [heads_next, ← Hhd.out, HH2.out, HL0.out, e0]
          have et : tailsR m xs (q + 1) = t2 := by rw [tails_next, ← Htl.out, HT2.out, HDr.out, HLr.out, HD.out, List.drop_take, List.drop_drop]
          have HZn := GZ.out.trans ((HBv.out.mono GZ.out.size).trans (JB.out.mono HWz.out.size))
          have HKn := keep_below (keep_below GP.out (HBv.out.mono GP.out.1)) JB.out
          have HI2 : Aside0 (LoopR Wz w g g3 g4 g5 #[.int .i64 (P : Int), .int .i64 R, .int .i64 z, .slice F nf cf] m xs (q + 1) (wS.setCell ⟨g5, 1, none⟩ (.slice A3_ t2.length c3_))) := ⟨A9, c9, .slice A2_ h2.length c2_, .slice A3_ t2.length c3_, by rw [e1]; have h1 := HDl0.out; have h2 := HQm.out; omega, by rw [e1, HTk.out, hA], by rw [ed]; exact blk_far JK.out NK5.out _, by rw [ed]; exact HC9.out, by rw [ed]; exact Hc9.out, blk_far J3.out N35.out _, blk_far J4.out N45.out _, (blk_set J5.out 1 _).trans rfl, by rw [eh]; exact Kd.R_set J0.out J5.out (by decide) 1 _, by rw [et]; exact Kd.R_set JR.out J5.out (by decide) 1 _, below_set HZn (Nat.le_trans HWz.out.size HG5.out), keep_below HKn ((Below.refl w.heap.size _).setCell (p := ⟨g5, 1, none⟩) HG5.out _)⟩
          clear HZn HKn eh et e0 ed e1
          go_wp2_with fail
          go_roundw
          case rel => exact ⟨q + 1, by omega, by go_num, HI2⟩
          case measure => simp [intOf]; omega
    · obtain rfl : P = q := by omega
      obtain ⟨A0_, c0_, rfl⟩ := Kd.R_slice HR0.out
      obtain ⟨A1_, c1_, rfl⟩ := Kd.R_slice HR1.out
      obtain ⟨hd, hhd⟩ : ∃ hd, hd = headsR m xs P := ⟨_, rfl⟩
      obtain ⟨tl, htl⟩ : ∃ tl, tl = tailsR m xs P := ⟨_, rfl⟩
      have Hhd := Aside0.mk hhd
      have Htl := Aside0.mk htl
      rw [← hhd] at HR0 K5
      rw [← htl] at HR1 K5
      clear hhd htl
      have hz0 : wr.cell? ⟨g5, 0, none⟩ = some (.slice A0_ hd.length c0_) := (blk_cell K5.out 0).trans rfl
      have hz1 : wr.cell? ⟨g5, 1, none⟩ = some (.slice A1_ tl.length c1_) := (blk_cell K5.out 1).trans rfl
      have hy0 : wr.cell? ⟨g4, 0, none⟩ = some (.slice none 0 0) := (blk_cell K4.out 0).trans rfl
      have hy1 : wr.cell? ⟨g4, 1, none⟩ = some (.slice none 0 0) := (blk_cell K4.out 1).trans rfl
      have hf0 := blk_frozen K4.out 0
      have hf1 := blk_frozen K4.out 1
      have R0' := Aside0.mk (Kd.R_set (Kd.R_set HR0.out K4.out (by decide) 0 (.slice A0_ hd.length c0_)) (blk_set K4.out 0 _) (by decide) 1 (.slice A1_ tl.length c1_))
      have R1' := Aside0.mk (Kd.R_set (Kd.R_set HR1.out K4.out (by decide) 0 (.slice A0_ hd.length c0_)) (blk_set K4.out 0 _) (by decide) 1 (.slice A1_ tl.length c1_))
      have NG4 : Aside0 (g ≠ g4) := ⟨blk_ne K.out K4.out (by decide)⟩
      have K' := Aside0.mk (blk_far (blk_far K.out (p := ⟨g4, 0, none⟩) NG4.out (.slice A0_ hd.length c0_)) (p := ⟨g4, 1, none⟩) NG4.out (.slice A1_ tl.length c1_))
      go_wp2_with fail
      refine bodyPost_ret (results_cell_row rfl _ _ g4 31 #[.slice A0_ hd.length c0_, .slice A1_ tl.length c1_] (0, 0) _ rfl ((blk_set (blk_set K4.out 0 _) 1 _).trans rfl) Try.underlying31 rfl (by kernel_rfl)) rfl ?_
      have hW4 : Wz.heap.size ≤ g4 := Nat.le_trans HWz.out.size HG4.out
      exact ⟨fun _ => ⟨_, _, A', c', rfl, by rw [← Hhd.out]; exact R0'.out, by rw [← Htl.out]; exact Kd.R_mono R1'.out (fun k hk => hk.1), K'.out, HCx.out, HCl.out⟩, fun h => absurd ⟨HQm.out, HAll.out⟩ h, below_set (below_set HZ.out hW4) hW4, keep_below (keep_below HKp.out ((Below.refl w.heap.size _).setCell (p := ⟨g4, 0, none⟩) HG4.out (.slice A0_ hd.length c0_))) ((Below.refl w.heap.size _).setCell (p := ⟨g4, 1, none⟩) HG4.out (.slice A1_ tl.length c1_))⟩
end Go.Proofs.Ytgemcomcjojjbaa.PS
