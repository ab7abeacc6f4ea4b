/- tight, walked by hand: of a right graph and its weights it answers true. Conditions: the graph is right, the weights are those of HSol. -/
import Derived.Test.YtmjdiiockddalaaHFix
namespace Go.Proofs.Ytmjdiiockddalaa.PW
open Go.RowKit Go.Maps Go.Proofs.YtmjdiiockddalaaW.PrintWords Go.Proofs.YtmjdiiockddalaaW.PrintLast Go.Proofs.YtmjdiiockddalaaW.PrintMore
set_option linter.unusedVariables false
set_option linter.unusedSimpArgs false
attribute [local go_sem] max2_int min2_int max_two min_two

theorem info65 : (Try.prog.info? 65).map (fun i => (i.zero, i.size, i.bytes)) = some (some (.agg #[.bool false, .bool false, .bool false, .bool false, .bool false, .bool false]), 6, 6) := by kernel_rfl
theorem info4 : (Try.prog.info? 4).map (fun i => (i.zero, i.size, i.bytes)) = some (some (.bool false), 1, 1) := by kernel_rfl
/-- The marks, six for each location. -/
def RowB (w : World) (g : Nat) (F : List Bool) : Prop := w.heap[g]? = some (.cells (F.map Value.bool).toArray 65 (0, 0))
def gb (F : List Bool) (i : Nat) : Bool := F.getD i false
theorem RowB.cell {w : World} {g : Nat} {F : List Bool} (h : RowB w g F) (i : Nat) (h1 : i < F.length) : w.cell? ⟨g, i, none⟩ = some (.bool (gb F i)) :=
  (blk_cell h _).trans (by simp [gb, List.getElem?_eq_getElem h1, List.getD_eq_getElem?_getD])
theorem RowB.set {w : World} {g : Nat} {F : List Bool} (h : RowB w g F) (i : Nat) (v : Bool) : RowB (w.setCell ⟨g, i, none⟩ (.bool v)) g (F.set i v) := by
  have h2 := blk_set h i (.bool v)
  unfold RowB
  rw [h2]
  congr 2
  simp [List.map_set]
theorem made_marks (w : World) (m : Nat) : RowB (w.alloc (Obj.cells (madeCells #[.bool false, .bool false, .bool false, .bool false, .bool false, .bool false] m) 65)) w.heap.size (List.replicate m false) := by
  unfold RowB
  rw [heap_alloc_new]
  congr 2
  apply Array.ext
  · simp [size_madeCells]
  · intro i h1 h2
    have h3 : i % 6 < 6 := Nat.mod_lt _ (by omega)
    simp only [madeCells, Array.getElem_map, Array.getElem_range, List.getElem_toArray, List.map_replicate, List.getElem_replicate]
    generalize i % 6 = q at *
    match q, h3 with
    | 0, _ => rfl
    | 1, _ => rfl
    | 2, _ => rfl
    | 3, _ => rfl
    | 4, _ => rfl
    | 5, _ => rfl
theorem make_marks (m : Nat) (hm : m ≤ 1048576) : ∀ W : World, (Instr.makeSlice 64 (.int .i64 (m : Int)) (.int .i64 (m : Int))).run Try.prog W = .ok (.slice (some ⟨W.heap.size, 0, none⟩) m m) (W.alloc (.cells (madeCells #[.bool false, .bool false, .bool false, .bool false, .bool false, .bool false] (m * 6)) 65)) := by
  intro W
  obtain ⟨i, hi, hz, hs, hb⟩ := info_parts info65
  have := run_make (P := Try.prog) W 64 65 i _ Try.underlying64 hi hz .i64 .i64 (m : Int) (m : Int) (by omega) (by omega) (by rw [hb]; omega) (by omega)
  simp only [Int.toNat_natCast, hs] at this
  exact this
theorem gb_set (F : List Bool) (i j : Nat) (h : i < F.length) : gb (F.set i true) j = if i = j then true else gb F j := by
  unfold gb
  rw [List.getD_eq_getElem?_getD, List.getD_eq_getElem?_getD, List.getElem?_set]
  by_cases hij : i = j
  · rw [if_pos hij, if_pos hij, if_pos h]; rfl
  · rw [if_neg hij, if_neg hij]
theorem gb_keep (F : List Bool) (i j : Nat) (h : i < F.length) (hj : gb F j = true) : gb (F.set i true) j = true := by
  rw [gb_set F i j h]; split
  · rfl
  · exact hj
def cf (F : List Bool) : Nat := (F.map fun b => if b then 0 else 1).sum
theorem cf_set : ∀ (F : List Bool) (i : Nat), i < F.length → gb F i = false → cf (F.set i true) + 1 = cf F
  | b :: F, 0, _, hb => by
    have : b = false := by simpa [gb] using hb
    subst this
    simp [cf]; omega
  | b :: F, i + 1, h, hb => by
    have := cf_set F i (by simpa using h) (by simpa [gb] using hb)
    simp only [List.set_cons_succ, cf, List.map_cons, List.sum_cons] at *
    omega
theorem cf_le (F : List Bool) : cf F ≤ F.length := by
  induction F with
  | nil => simp [cf]
  | cons b F ih => simp only [cf, List.map_cons, List.sum_cons, List.length_cons] at *; split <;> omega
/-- Are the marks of one edge's head handed on to its tail, at one weight? -/
def ClAt (es : List S41) (F : List Bool) (j d : Nat) : Prop := gb F ((rd_T41 es (j : Int)).f0.toNat * 6 + d) = true → gb F ((rd_T41 es (j : Int)).f1.toNat * 6 + (plus ((d : Int) - 1) (rd_T41 es (j : Int)).f2 + 1).toNat) = true
structure Pass (es : List S41) (rs : List Int) (n : Nat) (F0 F : List Bool) (more : Bool) (q d : Nat) : Prop where
  len : F.length = n * 6
  root : ∀ r ∈ rs, gb F (r.toNat * 6 + 1) = true
  le : cf F ≤ cf F0
  lt : more = true → cf F < cf F0
  same : more = false → F = F0 ∧ ∀ j d', d' < 5 → (j < q ∨ j = q ∧ d' < d) → ClAt es F j d'
theorem Pass.start {es : List S41} {rs : List Int} {n : Nat} {F : List Bool} (h : F.length = n * 6) (hr : ∀ r ∈ rs, gb F (r.toNat * 6 + 1) = true) : Pass es rs n F F false 0 0 :=
  ⟨h, hr, Nat.le_refl _, fun h => (by cases h), fun _ => ⟨rfl, fun j d' _ hj => by omega⟩⟩
theorem Pass.next {es : List S41} {rs : List Int} {n : Nat} {F0 F : List Bool} {more : Bool} {q : Nat} (h : Pass es rs n F0 F more q 5) : Pass es rs n F0 F more (q + 1) 0 :=
  ⟨h.len, h.root, h.le, h.lt, fun hm => ⟨(h.same hm).1, fun j d' h5 hj => (h.same hm).2 j d' h5 (by omega)⟩⟩
theorem Pass.skip {es : List S41} {rs : List Int} {n : Nat} {F0 F : List Bool} {more : Bool} {q d : Nat} (h : Pass es rs n F0 F more q d) (hc : ClAt es F q d) : Pass es rs n F0 F more q (d + 1) :=
  ⟨h.len, h.root, h.le, h.lt, fun hm => ⟨(h.same hm).1, fun j d' h5 hj => by
    by_cases hjd : j = q ∧ d' = d
    · obtain ⟨rfl, rfl⟩ := hjd; exact hc
    · exact (h.same hm).2 j d' h5 (by omega)⟩⟩
theorem Pass.put {es : List S41} {rs : List Int} {n : Nat} {F0 F : List Bool} {more : Bool} {q d : Nat} (h : Pass es rs n F0 F more q d) (i : Nat) (hi : i < F.length) (hf : gb F i = false) (q' d' : Nat) : Pass es rs n F0 (F.set i true) true q' d' := by
  have h1 := cf_set F i hi hf
  have h2 := h.le
  exact ⟨by rw [List.length_set]; exact h.len, fun r hr => gb_keep F i _ hi (h.root r hr), by omega, fun _ => by omega, fun hm => by cases hm⟩
theorem closed_reach {es : List S41} {rs : List Int} {n : Nat} {F : List Bool} (hg : Good n es rs) (hr : ∀ r ∈ rs, gb F (r.toNat * 6 + 1) = true) (hc : ∀ j d', d' < 5 → j < es.length → ClAt es F j d') {i d : Int} (h : Reach es rs i d) : gb F (i.toNat * 6 + (d + 1).toNat) = true := by
  induction h with
  | root h => exact hr _ h
  | @edge e d h hd ih =>
    have hrg := hd.range hg
    obtain ⟨j, hj, rfl⟩ := List.getElem_of_mem h
    have := hc j (d + 1).toNat (by omega) hj
    unfold ClAt at this
    rw [rd41_get es j hj] at this
    have e1 : (((d + 1).toNat : Nat) : Int) - 1 = d := by omega
    rw [e1] at this
    exact this ih
def TAB_18.T31 : Bool × List (List Nat × List Nat) := (true, [([], []), ([], []), ([0, 1], [0, 1]), ([2], [2]), ([3], [3]), ([4], [4]), ([5], [5]), ([5], [5]), ([6, 7, 5], [5, 6, 7]), ([8, 5], [5, 8]), ([9, 5], [5, 9]), ([10, 5, 5], [5, 10]), ([11], [11]), ([11], [11]), ([12, 13, 11], [11, 12, 13]), ([14, 11], [11, 14]), ([15, 11], [11, 15]), ([11, 16, 5], [5, 11, 16]), ([17, 11, 5], [5, 17]), ([18], [18]), ([18], [18]), ([18], [18]), ([18], [18]), ([21, 22, 18], [18, 21, 22]), ([23, 18], [18, 23]), ([24, 18], [18, 24]), ([19, 20, 18], [18, 19, 20]), ([26, 25, 18], [18, 25, 26]), ([27, 18], [18, 27]), ([28, 18], [18, 28]), ([18, 29, 5], [5, 18, 29]), ([5, 30], [5, 30])])
def TAB_18.B31 : List Nat := [0, 0, 3, 7, 15, 31, 63, 63, 255, 511, 1023, 2047, 4095, 4095, 16383, 32767, 65535, 131071, 262143, 524287, 524287, 524287, 524287, 6815743, 15204351, 31981567, 2097151, 134217727, 268435455, 536870911, 1073741823, 2147483647]
theorem TAB_18.tab31 : rtab .any (opsOf Try.f18 31) = TAB_18.T31 := by kernel_rfl
theorem TAB_18.bits31 : waitsOk TAB_18.T31.2 TAB_18.B31 = true := by kernel_rfl
set_option maxRecDepth 100000 in
set_option maxHeartbeats 4000000 in
theorem tight_good (n : Nat) (A1 : Option Addr) (c1 : Nat) (l1 : List S41) (A2 : Option Addr) (c2 : Nat) (l2 : List Int) (A3 : Option Addr) (c3 : Nat) (l3 : List Int) (w : World) (hn : n ≤ 1048576) (hl1 : l1.length < 5864062014805)
    (hr1 : Kd.C k41 w A1 l1.length l1) (hc1 : l1.length ≤ c1) (hr2 : Kd.C (Kd.int .i64) w A2 l2.length l2) (hc2 : l2.length ≤ c2) (hr3 : Kd.C (Kd.int .i64) w A3 l3.length l3) (hc3 : l3.length ≤ c3) (hg : Good n l1 l2) (hs : Sol n l1 l2 l3) :
    Calls Try.prog 18 #[.agg #[.int .i64 n, .slice A1 l1.length c1, .slice A2 l2.length c2], .slice A3 l3.length c3] w fun e w' => e = .returned (.bool true) ∧ Below w.heap.size w w' := by
  have HR1 := Aside0.mk hr1
  have HR2 := Aside0.mk hr2
  have HR3 := Aside0.mk hr3
  have HC1 := Aside0.mk hc1
  have HC2 := Aside0.mk hc2
  have HC3 := Aside0.mk hc3
  have HG := Aside0.mk hg
  have HS := Aside0.mk hs
  obtain rfl : l3.length = n := hs.len
  have HB0 := Aside0.mk (Below.refl w.heap.size w)
  clear hr1 hr2 hr3 hc1 hc2 hc3 hg hs
  have hl2m : l2.length ≤ 9223372036854775807 := Kd.C_max HR2.out
  have hl1m : l1.length ≤ 9223372036854775807 := Kd.C_max HR1.out
  have hmk := make_marks l3.length (by omega)
  go_enter Try.func18, Try.ntmps18
  go_wp2_with (first | ((with_reducible refine gate_dst (N := 2) rfl ?_); refine box_event ?hg (N := 2) ?hd (cs := #[.int .i64 (l3.length : Int), .slice A1 l1.length c1, .slice A2 l2.length c2]) (t := 31) ?hr ?_; (case hd => rfl); (case hg => rfl); (case hr => first | (go_simp; done) | (go_simp; rfl)); intro g2 hg w1 hbox hb; have HG2 := Aside0.mk (hg ▸ Nat.le_refl _ : w.heap.size ≤ g2); have BK2 := Aside0.mk hbox; have HB := Aside0.mk hb; clear HB0 hg hbox hb))
  go_loopw [5, 6] (fun v5 v6 w' => ∃ q : Nat, q ≤ l3.length ∧ v6 = .int .i64 q ∧ Aside0 (Kd.R Kd.bool 4 w' w.heap.size (fun _ => True) v5 ((l3.take q).map (fun z => z == 9))) ∧ Aside0 (w'.heap[g2]? = some (.cells #[.int .i64 (l3.length : Int), .slice A1 l1.length c1, .slice A2 l2.length c2] 31 (0, 0))) ∧ Aside0 (Below w.heap.size w w')) (fun _ i _ => l3.length - (intOf i).toNat)
  case atStart => exact ⟨0, Nat.zero_le _, rfl, ⟨Kd.R_nil _ _ _ _ _⟩, BK2, HB⟩
  case round =>
    clear BK2 HB
    obtain ⟨q, hq, rfl, HO, BK2, HB⟩ := hrel
    by_cases hlt : q < l3.length
    · have h0 : (0 : Int) ≤ q := by omega
      have h1 : (q : Int) < l3.length := by omega
      obtain ⟨ad, e0, hx0⟩ := Kd.at_int HR3.out (q : Int) h0 h1
      cases e0
      simp only [Int.toNat_natCast] at hx0
      replace hx0 := (HB.out.cell (World.block_lt_of_cell? w _ hx0)).trans hx0
      have hnx : (l3.take (q + 1)).map (fun z => z == 9) = (l3.take q).map (fun z => z == 9) ++ [rd l3 (q : Int) == 9] := by
        rw [List.take_succ_eq_append_getElem hlt, List.map_append, rd_get l3 q hlt]; rfl
      have HN := Aside0.mk hnx
      clear hnx
      have HL : Aside0 (((l3.take q).map (fun z => z == 9)).length < 17592186044416) := ⟨by rw [List.length_map]; have : (l3.take q).length ≤ q := List.length_take_le _ _; omega⟩
      obtain ⟨ys, hys⟩ : ∃ ys, ys = (l3.take q).map (fun z => z == 9) := ⟨_, rfl⟩
      rw [← hys] at HO HN HL
      clear hys
      go_wp2_with (first | ((with_reducible refine gate_builtin (b := .append) (xs := #[.tmp 21, .tmp 27]) rfl ?_); at_builtin; refine Kd.R_append Kd.bool (w0 := w) w.heap.size rfl (.tmp 21) (.tmp 27) 63 4 (.bool false) 1 rfl Try.underlying63 info4 rfl (by decide) (by omega) u5 ys (rd l3 (q : Int) == 9) [.bool (rd l3 (q : Int) == 9)] (fun _ => True) (fun _ => False) rfl rfl ?aP (fun _ hk => hk.elim) ?aF ?aO ?aB ?aS ?aL ?_; (case aP => exact rfl); (case aB => exact HB.out); (case aF => exact (fun _ _ => trivial)); (case aO => exact HO.out); (case aS => exact below_size HB.out); (case aL => have := HL.out; omega); intro v29 w5 ho hb hg hat; rw [← HN.out] at ho; have HO5 := Aside0.mk ho; have HB5 := Aside0.mk hb; clear ho hb hat))
      go_roundw
      case rel => exact ⟨q + 1, by omega, by go_num, HO5, ⟨blk_grown BK2.out hg (Kd.R_ne HO.out BK2.out (by decide))⟩, HB5⟩
      case measure => simp [intOf]; omega
    · obtain rfl : q = l3.length := by omega
      rw [List.take_of_length_le (Nat.le_refl _)] at HO
      clear hlt hq
      obtain ⟨D, hD⟩ : ∃ D, D = l3.map (fun z => z == 9) := ⟨_, rfl⟩
      rw [← hD] at HO
      have HD := Aside0.mk hD
      clear hD
      have HM0 := Aside0.mk (made_marks wr (l3.length * 6))
      have HO0 := Aside0.mk (Kd.R_alloc HO.out (Obj.cells (madeCells #[.bool false, .bool false, .bool false, .bool false, .bool false, .bool false] (l3.length * 6)) 65))
      have BK0 := Aside0.mk (blk_alloc BK2.out (Obj.cells (madeCells #[.bool false, .bool false, .bool false, .bool false, .bool false, .bool false] (l3.length * 6)) 65))
      have HB0 := Aside0.mk (below_alloc HB.out (Obj.cells (madeCells #[.bool false, .bool false, .bool false, .bool false, .bool false, .bool false] (l3.length * 6)) 65))
      have HGr : Aside0 (w.heap.size ≤ wr.heap.size) := ⟨HB.out.size⟩
      clear BK2 HO HB
      go_wp2_with fail
      obtain ⟨gr, hgr⟩ : ∃ g, g = wr.heap.size := ⟨_, rfl⟩
      rw [← hgr] at HM0 HGr ⊢
      clear hgr
      generalize (wr.alloc (Obj.cells (madeCells #[.bool false, .bool false, .bool false, .bool false, .bool false, .bool false] (l3.length * 6)) 65)) = wM at *
      go_loopw [8] (fun v8 w' => ∃ (q : Nat) (F : List Bool), q ≤ l2.length ∧ v8 = .int .i64 q ∧ Aside0 (RowB w' gr F) ∧ Aside0 (F.length = l3.length * 6) ∧ Aside0 (∀ r ∈ l2.take q, gb F (r.toNat * 6 + 1) = true) ∧ Aside0 (Kd.R Kd.bool 4 w' w.heap.size (fun _ => True) u5 D) ∧ Aside0 (w'.heap[g2]? = some (.cells #[.int .i64 (l3.length : Int), .slice A1 l1.length c1, .slice A2 l2.length c2] 31 (0, 0))) ∧ Aside0 (Below w.heap.size w w')) (fun i _ => l2.length - (intOf i).toNat)
      case atStart => exact ⟨0, _, Nat.zero_le _, rfl, HM0, ⟨by simp⟩, ⟨by simp⟩, HO0, BK0, HB0⟩
      case round =>
        clear HM0 HO0 BK0 HB0
        obtain ⟨q, F, hq, rfl, HM, HLn, HRo, HO, BK2, HB⟩ := hrel
        have hz0 : wr.cell? ⟨g2, 0, none⟩ = some (.int .i64 (l3.length : Int)) := (blk_cell BK2.out 0).trans rfl
        have hz1 : wr.cell? ⟨g2, 1, none⟩ = some (.slice A1 l1.length c1) := (blk_cell BK2.out 1).trans rfl
        have hz2 : wr.cell? ⟨g2, 2, none⟩ = some (.slice A2 l2.length c2) := (blk_cell BK2.out 2).trans rfl
        by_cases hlt : q < l2.length
        · have h0 : (0 : Int) ≤ q := by omega
          have h1 : (q : Int) < l2.length := by omega
          obtain ⟨ad, e0, hx0⟩ := Kd.at_int HR2.out (q : Int) h0 h1
          cases e0
          simp only [Int.toNat_natCast] at hx0
          replace hx0 := (HB.out.cell (World.block_lt_of_cell? w _ hx0)).trans hx0
          have hm := HG.out.2 _ (show rd l2 (q : Int) ∈ l2 by rw [rd_get l2 q hlt]; exact List.getElem_mem _)
          obtain ⟨rr, hrr⟩ := Int.eq_ofNat_of_zero_le hm.1
          rw [hrr] at hx0 hm
          have hrl : rr < l3.length := by omega
          have hrl2 : (rr : Int) < l3.length := by omega
          have hr0 : (0 : Int) ≤ rr := by omega
          have HRr := Aside0.mk hrr
          have hcF := HM.out.cell (rr * 6 + 1) (by have := HLn.out; omega)
          have hfF := blk_frozen HM.out (rr * 6 + 1)
          clear hm hrr
          go_wp2_with fail
          go_roundw
          case rel => exact ⟨q + 1, F.set (rr * 6 + 1) true, by omega, by go_num, ⟨RowB.set HM.out _ true⟩, ⟨by rw [List.length_set]; exact HLn.out⟩, ⟨fun r hr => by
            rw [List.take_succ_eq_append_getElem hlt] at hr
            rcases List.mem_append.1 hr with hr | hr
            · exact gb_keep F _ _ (by have := HLn.out; omega) (HRo.out r hr)
            · rw [List.mem_singleton, ← rd_get l2 q hlt, HRr.out] at hr
              rw [hr, gb_set F _ _ (by have := HLn.out; omega), if_pos (by simp)]⟩, ⟨Kd.R_set HO.out HM.out (by decide) _ _⟩, ⟨blk_far BK2.out (show g2 ≠ gr from blk_ne BK2.out HM.out (by decide)) _⟩, ⟨below_set HB.out HGr.out⟩⟩
          case measure => simp [intOf]; omega
        · obtain rfl : q = l2.length := by omega
          rw [List.take_of_length_le (Nat.le_refl _)] at HRo
          clear hlt hq
          go_wp2_with fail
          clear hz0 hz1 hz2
          go_loopg [9] (l3.length * 6 + 1) (fun kq v9 w' => ∃ (more : Bool) (F : List Bool), v9 = .bool more ∧ Aside0 (F.length = l3.length * 6) ∧ Aside0 (∀ r ∈ l2, gb F (r.toNat * 6 + 1) = true) ∧ Aside0 (more = false → ∀ j d', d' < 5 → j < l1.length → ClAt l1 F j d') ∧ Aside0 (cf F + (if more then 1 else 0) ≤ kq) ∧ Aside0 (RowB w' gr F) ∧ Aside0 (Kd.R Kd.bool 4 w' w.heap.size (fun _ => True) u5 D) ∧ Aside0 (w'.heap[g2]? = some (.cells #[.int .i64 (l3.length : Int), .slice A1 l1.length c1, .slice A2 l2.length c2] 31 (0, 0))) ∧ Aside0 (Below w.heap.size w w'))
          case atStart => exact ⟨true, F, rfl, HLn, HRo, ⟨fun h => by cases h⟩, ⟨by have := cf_le F; have := HLn.out; simp; omega⟩, HM, HO, BK2, HB⟩
          case round =>
            clear HLn HRo HM HO BK2 HB
            obtain ⟨more, F0, rfl, HLn, HRo, HCl, HCf, HM, HO, BK2, HB⟩ := hrel
            cases more with
            | true =>
              have HP := Aside0.mk (Pass.start (es := l1) HLn.out HRo.out)
              go_wp2_with fail
              go_loopw [9, 10] (fun v9 v10 w' => ∃ (q : Nat) (more : Bool) (F : List Bool), q ≤ l1.length ∧ v9 = .bool more ∧ v10 = .int .i64 q ∧ Aside0 (Pass l1 l2 l3.length F0 F more q 0) ∧ Aside0 (RowB w' gr F) ∧ Aside0 (Kd.R Kd.bool 4 w' w.heap.size (fun _ => True) u5 D) ∧ Aside0 (w'.heap[g2]? = some (.cells #[.int .i64 (l3.length : Int), .slice A1 l1.length c1, .slice A2 l2.length c2] 31 (0, 0))) ∧ Aside0 (Below w.heap.size w w')) (fun _ i _ => l1.length - (intOf i).toNat)
              case atStart => exact ⟨0, false, F0, Nat.zero_le _, rfl, rfl, HP, HM, HO, BK2, HB⟩
              case round =>
                clear HP HM HO BK2 HB
                obtain ⟨q, more, F, hq, rfl, rfl, HP, HM, HO, BK2, HB⟩ := hrel
                have hz1 : wr.cell? ⟨g2, 1, none⟩ = some (.slice A1 l1.length c1) := (blk_cell BK2.out 1).trans rfl
                by_cases hlt : q < l1.length
                · have h0 : (0 : Int) ≤ q := by omega
                  have h1 : (q : Int) < l1.length := by omega
                  obtain ⟨ad, e0, hx0, hx1, hx2⟩ := at_T41 HR1.out (q : Int) h0 h1
                  cases e0
                  simp only [Int.toNat_natCast] at hx0 hx1 hx2
                  replace hx0 := (HB.out.cell (World.block_lt_of_cell? w _ hx0)).trans hx0
                  replace hx1 := (HB.out.cell (World.block_lt_of_cell? w _ hx1)).trans hx1
                  replace hx2 := (HB.out.cell (World.block_lt_of_cell? w _ hx2)).trans hx2
                  obtain ⟨e, he⟩ : ∃ e, e = rd_T41 l1 (q : Int) := ⟨_, rfl⟩
                  have hmm := HG.out.1 e (by rw [he, rd41_get l1 q hlt]; exact List.getElem_mem _)
                  rw [← he] at hx0 hx1 hx2
                  obtain ⟨hg0, hg1, hg2, hg3, hg4, hg5⟩ := hmm
                  obtain ⟨a, ha⟩ := Int.eq_ofNat_of_zero_le hg0
                  obtain ⟨b, hb⟩ := Int.eq_ofNat_of_zero_le hg2
                  obtain ⟨e2, he2⟩ : ∃ e2, e2 = e.f2 := ⟨_, rfl⟩
                  rw [ha] at hx0 hg1
                  rw [hb] at hx1 hg3
                  rw [← he2] at hx2 hg4 hg5
                  have HE : Aside0 (∀ (F : List Bool) (d : Nat), ClAt l1 F q d ↔ (gb F (a * 6 + d) = true → gb F (b * 6 + (plus ((d : Int) - 1) e2 + 1).toNat) = true)) := ⟨fun F d => by unfold ClAt; rw [← he, ha, hb, ← he2, Int.toNat_natCast, Int.toNat_natCast]⟩
                  clear he ha hb he2 hg0 hg2
                  have hal : (a : Int) < l3.length := hg1
                  have hbl : (b : Int) < l3.length := hg3
                  have ha0 : (0 : Int) ≤ a := by omega
                  have hb0 : (0 : Int) ≤ b := by omega
                  clear hg1 hg3
                  have HAl := Aside0.mk (below_alloc (Below.refl wr.heap.size wr) (Obj.cells #[Value.int IntKind.i64 (a : Int), Value.int IntKind.i64 (b : Int), Value.int IntKind.i64 e2] 41))
                  have HGR := Aside0.mk (heap_alloc_new wr (Obj.cells #[Value.int IntKind.i64 (a : Int), Value.int IntKind.i64 (b : Int), Value.int IntKind.i64 e2] 41))
                  have HB' := Aside0.mk (below_alloc HB.out (Obj.cells #[Value.int IntKind.i64 (a : Int), Value.int IntKind.i64 (b : Int), Value.int IntKind.i64 e2] 41))
                  have HO' := Aside0.mk (Kd.R_alloc HO.out (Obj.cells #[Value.int IntKind.i64 (a : Int), Value.int IntKind.i64 (b : Int), Value.int IntKind.i64 e2] 41))
                  have HM' : Aside0 (RowB (wr.alloc (Obj.cells #[Value.int IntKind.i64 (a : Int), Value.int IntKind.i64 (b : Int), Value.int IntKind.i64 e2] 41)) gr F) := ⟨blk_alloc HM.out _⟩
                  have BK' := Aside0.mk (blk_alloc BK2.out (Obj.cells #[Value.int IntKind.i64 (a : Int), Value.int IntKind.i64 (b : Int), Value.int IntKind.i64 e2] 41))
                  have HGe : Aside0 (w.heap.size ≤ wr.heap.size) := ⟨HB.out.size⟩
                  have HGne : Aside0 (gr ≠ wr.heap.size) := ⟨Nat.ne_of_lt (blk_lt HM.out)⟩
                  go_wp2_with fail
                  generalize (wr.alloc (Obj.cells #[Value.int IntKind.i64 (a : Int), Value.int IntKind.i64 (b : Int), Value.int IntKind.i64 e2] 41)) = wE at *
                  obtain ⟨ge, hge⟩ : ∃ g, g = wr.heap.size := ⟨_, rfl⟩
                  rw [← hge] at HGR HGe HGne ⊢
                  clear hge HAl hz1 hx0 hx1 hx2 HM HO BK2 HB
                  go_loopw [9, 12] (fun v9 v12 w' => ∃ (d : Nat) (more : Bool) (F : List Bool), d ≤ 5 ∧ v9 = .bool more ∧ v12 = .int .i64 ((d : Int) - 1) ∧ Aside0 (Pass l1 l2 l3.length F0 F more q d) ∧ Aside0 (w'.heap[ge]? = some (.cells #[.int .i64 (a : Int), .int .i64 (b : Int), .int .i64 e2] 41 (0, 0))) ∧ Aside0 (RowB w' gr F) ∧ Aside0 (Kd.R Kd.bool 4 w' w.heap.size (fun _ => True) u5 D) ∧ Aside0 (w'.heap[g2]? = some (.cells #[.int .i64 (l3.length : Int), .slice (some ad) l1.length c1, .slice A2 l2.length c2] 31 (0, 0))) ∧ Aside0 (Below w.heap.size w w')) (fun _ i _ => (5 - intOf i).toNat)
                  case atStart => exact ⟨0, more, F, by omega, rfl, rfl, HP, HGR, HM', HO', BK', HB'⟩
                  case round =>
                    clear HP HGR HM' HO' BK' HB'
                    obtain ⟨d, more, F, hd, rfl, rfl, HP, HGR, HM, HO, BK2, HB⟩ := hrel
                    have hy0 : wr.cell? ⟨ge, 0, none⟩ = some (.int .i64 (a : Int)) := (blk_cell HGR.out 0).trans rfl
                    have hy1 : wr.cell? ⟨ge, 1, none⟩ = some (.int .i64 (b : Int)) := (blk_cell HGR.out 1).trans rfl
                    have hy2 : wr.cell? ⟨ge, 2, none⟩ = some (.int .i64 e2) := (blk_cell HGR.out 2).trans rfl
                    by_cases hd5 : d < 5
                    · have hdi : (d : Int) - 1 ≤ 3 := by omega
                      have hd6 : (d : Int) < 6 := by omega
                      have hd0 : (0 : Int) ≤ d := by omega
                      have hcF := HM.out.cell (a * 6 + d) (by have := HP.out.len; omega)
                      cases hgb : gb F (a * 6 + d) with
                      | false =>
                        rw [hgb] at hcF
                        have HS1 : Aside0 (ClAt l1 F q d) := ⟨(HE.out F d).2 (fun h => by rw [hgb] at h; cases h)⟩
                        clear hgb
                        go_wp2_with fail
                        go_roundw
                        case rel => exact ⟨d + 1, more, F, by omega, rfl, by go_num, ⟨HP.out.skip HS1.out⟩, HGR, HM, HO, BK2, HB⟩
                        case measure => simp [intOf]; omega
                      | true =>
                        rw [hgb] at hcF
                        have hpr := plus_range (d := (d : Int) - 1) (x := e2) (by omega) (by omega) (by omega) (by omega)
                        obtain ⟨pp, hpp⟩ := Int.eq_ofNat_of_zero_le (show 0 ≤ plus ((d : Int) - 1) e2 + 1 by omega)
                        have hp5 : pp < 5 := by omega
                        have HPl : Aside0 (∀ W, Calls Try.prog 17 #[.int .i64 ((d : Int) - 1), .int .i64 e2] W fun e w' => e = .returned (.int .i64 ((pp : Int) - 1)) ∧ W = w') := ⟨fun W => by rw [show (pp : Int) - 1 = plus ((d : Int) - 1) e2 by omega]; exact plus_any _ _ W⟩
                        have HS1 : Aside0 (gb F (b * 6 + pp) = true → ClAt l1 F q d) := ⟨fun h => (HE.out F d).2 (fun _ => by rw [hpp, Int.toNat_natCast]; exact h)⟩
                        clear hpr hpp hgb
                        have hp0 : (0 : Int) ≤ pp := by omega
                        have hp1 : ¬ ((pp : Int) - 1 < -1) := by omega
                        have hp2 : ¬ (3 < (pp : Int) - 1) := by omega
                        have hp6 : (pp : Int) < 6 := by omega
                        have hcG := HM.out.cell (b * 6 + pp) (by have := HP.out.len; omega)
                        have hfG := blk_frozen HM.out (b * 6 + pp)
                        cases hgq : gb F (b * 6 + pp) with
                        | true =>
                          rw [hgq] at hcG
                          have HS2 := Aside0.mk (HS1.out hgq)
                          clear hgq
                          go_wp2_with (first | (go_at_call 17; refine (HPl.out _).mono ?_; rintro e w' ⟨rfl, rfl⟩))
                          go_roundw
                          case rel => exact ⟨d + 1, more, F, by omega, rfl, by go_num, ⟨HP.out.skip HS2.out⟩, HGR, HM, HO, BK2, HB⟩
                          case measure => simp [intOf]; omega
                        | false =>
                          rw [hgq] at hcG
                          have HQ := Aside0.mk hgq
                          clear hgq
                          go_wp2_with (first | (go_at_call 17; refine (HPl.out _).mono ?_; rintro e w' ⟨rfl, rfl⟩))
                          go_roundw
                          case rel => exact ⟨d + 1, true, F.set (b * 6 + pp) true, by omega, rfl, by go_num, ⟨HP.out.put _ (by have := HP.out.len; omega) HQ.out _ _⟩, ⟨blk_far HGR.out (show ge ≠ gr from HGne.out.symm) _⟩, ⟨RowB.set HM.out _ true⟩, ⟨Kd.R_set HO.out HM.out (by decide) _ _⟩, ⟨blk_far BK2.out (show g2 ≠ gr from blk_ne BK2.out HM.out (by decide)) _⟩, ⟨below_set HB.out HGr.out⟩⟩
                          case measure => simp [intOf]; omega
                    · obtain rfl : d = 5 := by omega
                      clear hd hd5
                      go_wp2_with fail
                      go_roundw
                      case rel => exact ⟨q + 1, more, F, by omega, rfl, by go_num, ⟨HP.out.next⟩, HM, HO, BK2, HB⟩
                      case measure => simp [intOf]; omega
                · obtain rfl : q = l1.length := by omega
                  clear hlt hq
                  obtain ⟨gk2, rfl⟩ : ∃ k', gk = k' + 1 := ⟨gk - 1, by have := HCf.out; simp at this; omega⟩
                  have HCf2 : Aside0 (cf F + (if more then 1 else 0) ≤ gk2) := ⟨by
                    have h1 := HCf.out
                    have h2 := HP.out.le
                    have h3 := HP.out.lt
                    cases more with
                    | true => have := h3 rfl; simp at h1 ⊢; omega
                    | false => simp at h1 ⊢; omega⟩
                  have HCl2 : Aside0 (more = false → ∀ j d', d' < 5 → j < l1.length → ClAt l1 F j d') := ⟨fun hm j d' h5 hj => (HP.out.same hm).2 j d' h5 (.inl hj)⟩
                  go_wp2_with fail
                  go_roundg gk2
                  case measure => omega
                  case rel => exact ⟨more, F, rfl, ⟨HP.out.len⟩, ⟨HP.out.root⟩, HCl2, HCf2, HM, HO, BK2, HB⟩
            | false =>
              have HAll : Aside0 (∀ (i d : Int), Reach l1 l2 i d → gb F0 (i.toNat * 6 + (d + 1).toNat) = true) := ⟨fun i d h => closed_reach HG.out HRo.out (HCl.out rfl) h⟩
              clear HCl HCf HRo
              go_wp2_with fail
              go_loopw [14] (fun v14 w' => ∃ q : Nat, q ≤ l3.length ∧ v14 = .int .i64 q ∧ Aside0 (RowB w' gr F0) ∧ Aside0 (Kd.R Kd.bool 4 w' w.heap.size (fun _ => True) u5 D) ∧ Aside0 (Below w.heap.size w w')) (fun i _ => l3.length - (intOf i).toNat)
              case atStart => exact ⟨0, Nat.zero_le _, rfl, HM, HO, HB⟩
              case round =>
                clear HM HO HB BK2
                obtain ⟨q, hq, rfl, HM, HO, HB⟩ := hrel
                by_cases hlt : q < l3.length
                · have h0 : (0 : Int) ≤ q := by omega
                  have h1 : (q : Int) < l3.length := by omega
                  obtain ⟨ad, e0, hx0⟩ := Kd.at_int HR3.out (q : Int) h0 h1
                  cases e0
                  simp only [Int.toNat_natCast] at hx0
                  replace hx0 := (HB.out.cell (World.block_lt_of_cell? w _ hx0)).trans hx0
                  have hDl : D.length = l3.length := by rw [HD.out, List.length_map]
                  obtain ⟨gd, cd, ed, _, _, cls, HGd⟩ := Kd.R_form HO.out (by omega)
                  subst ed
                  obtain ⟨ad2, e2, hy0⟩ := Kd.at_bool (Kd.R_reads' HO.out).2.2 (q : Int) h0 (by omega)
                  cases e2
                  simp only [Int.toNat_natCast, add_plain] at hy0
                  have hDq : rdOf false D (q : Int) = (rd l3 (q : Int) == 9) := by
                    unfold rdOf rd
                    rw [Int.toNat_natCast, HD.out, List.getD_eq_getElem?_getD, List.getElem?_map, List.getD_eq_getElem?_getD, List.getElem?_eq_getElem hlt]
                    rfl
                  rw [hDq] at hy0
                  rw [hDl] at HO ⊢
                  clear hDq HGd
                  obtain ⟨x, hx⟩ : ∃ x, x = rd l3 (q : Int) := ⟨_, rfl⟩
                  rw [← hx] at hx0 hy0
                  have hw := HS.out.way (q : Int) h0 h1
                  rw [← hx] at hw
                  clear hx
                  by_cases hx9 : x = 9
                  · have hb9 : (x == 9) = true := beq_iff_eq.2 hx9
                    rw [hb9] at hy0
                    clear hx9 hw hb9
                    go_wp2_with fail
                    refine start_ (n := 32) (S := fun w' => w'.cell? ⟨gd, q, none⟩ = some (.bool true)) (ds := []) #[false, false, false, false, false, false, false, false, false, false, false, false, false, false, false, false, false, false, false, false, false, false, false, false, false, false, false, false, false, false, false, false] (by kernel_rfl) rfl rfl (hy0) (fun hHeld => ?_)
                    refine with_tabW TAB_18.tab31 TAB_18.bits31 (fun HT_ HW_ => ?_)
                    refine pure_ (i := 0) (N := some 104) (v := ?_) (a' := ?_) #[true, false, false, false, false, false, false, false, false, false, false, false, false, false, false, false, false, false, false, false, false, false, false, false, false, false, false, false, false, false, false, false] rfl rfl (any_of HT_.out (by kernel_rfl)) (fun _ _ _ h => h) (Or.inl ⟨by rfl, ?_⟩) ?_ ?_
                    rotate_left
                    · intro w'
                      go_simp
                      with_reducible rfl
                    rotate_left
                    · simp only [Act.put, List.setIfInBounds_toArray, List.set_cons_zero, List.set_cons_succ, i64_w, i32_w]
                      rfl
                    refine pure_ (i := 1) (N := some 105) (v := ?_) (a' := ?_) #[true, true, false, false, false, false, false, false, false, false, false, false, false, false, false, false, false, false, false, false, false, false, false, false, false, false, false, false, false, false, false, false] rfl rfl (any_of HT_.out (by kernel_rfl)) (fun _ _ _ h => h) (Or.inl ⟨by rfl, ?_⟩) ?_ ?_
                    rotate_left
                    · intro w'
                      go_simp
                      with_reducible rfl
                    rotate_left
                    · simp only [Act.put, List.setIfInBounds_toArray, List.set_cons_zero, List.set_cons_succ, i64_w, i32_w]
                      rfl
                    refine pure_ (i := 2) (N := some 106) (v := ?_) (a' := ?_) #[true, true, true, false, false, false, false, false, false, false, false, false, false, false, false, false, false, false, false, false, false, false, false, false, false, false, false, false, false, false, false, false] rfl rfl (any_of HT_.out (by kernel_rfl)) (fun _ _ _ h => h) (Or.inl ⟨by rfl, ?_⟩) ?_ ?_
                    rotate_left
                    · intro w'
                      go_simp
                      with_reducible rfl
                    rotate_left
                    · simp only [Act.put, List.setIfInBounds_toArray, List.set_cons_zero, List.set_cons_succ, i64_w, i32_w]
                      rfl
                    refine take_ (i := 3) (N := some 107) (v := ?_) (a' := ?_) #[true, true, true, true, false, false, false, false, false, false, false, false, false, false, false, false, false, false, false, false, false, false, false, false, false, false, false, false, false, false, false, false] rfl rfl (take_ofW HT_.out HW_.out (by kernel_rfl)) (fun _ _ _ h => h) (Or.inl ⟨by rfl, ?_⟩) hHeld ?_ ?_
                    rotate_left
                    · intro w' s0
                      go_simp
                      with_reducible rfl
                    rotate_left
                    · simp only [Act.put, List.setIfInBounds_toArray, List.set_cons_zero, List.set_cons_succ, i64_w, i32_w]
                      rfl
                    refine pure_ (i := 4) (N := some 108) (v := ?_) (a' := ?_) #[true, true, true, true, true, false, false, false, false, false, false, false, false, false, false, false, false, false, false, false, false, false, false, false, false, false, false, false, false, false, false, false] rfl rfl (any_of HT_.out (by kernel_rfl)) (fun _ _ _ h => h) (Or.inl ⟨by rfl, ?_⟩) ?_ ?_
                    rotate_left
                    · intro w'
                      go_simp
                      with_reducible rfl
                    rotate_left
                    · simp only [Act.put, List.setIfInBounds_toArray, List.set_cons_zero, List.set_cons_succ, i64_w, i32_w]
                      rfl
                    refine pure_ (i := 5) (N := some 109) (v := ?_) (a' := ?_) #[true, true, true, true, true, true, false, false, false, false, false, false, false, false, false, false, false, false, false, false, false, false, false, false, false, false, false, false, false, false, false, false] rfl rfl (any_of HT_.out (by kernel_rfl)) (fun _ _ _ h => h) (Or.inl ⟨by rfl, ?_⟩) ?_ ?_
                    rotate_left
                    · intro w'
                      go_simp
                      with_reducible rfl
                    rotate_left
                    · simp only [Act.put, List.setIfInBounds_toArray, List.set_cons_zero, List.set_cons_succ, i64_w, i32_w]
                      rfl
                    refine pure_ (i := 6) (N := some 110) (v := undef) (a' := ?_) #[true, true, true, true, true, true, true, false, false, false, false, false, false, false, false, false, false, false, false, false, false, false, false, false, false, false, false, false, false, false, false, false] rfl rfl (any_of HT_.out (by kernel_rfl)) (fun _ _ _ h => h) (Or.inr ⟨by rfl, rfl⟩) ?_ ?_
                    rotate_left
                    · simp only [Act.put, List.setIfInBounds_toArray, List.set_cons_zero, List.set_cons_succ, i64_w, i32_w]
                      rfl
                    refine pure_ (i := 7) (N := some 111) (v := undef) (a' := ?_) #[true, true, true, true, true, true, true, true, false, false, false, false, false, false, false, false, false, false, false, false, false, false, false, false, false, false, false, false, false, false, false, false] rfl rfl (any_of HT_.out (by kernel_rfl)) (fun _ _ _ h => h) (Or.inr ⟨by rfl, rfl⟩) ?_ ?_
                    rotate_left
                    · simp only [Act.put, List.setIfInBounds_toArray, List.set_cons_zero, List.set_cons_succ, i64_w, i32_w]
                      rfl
                    refine pure_ (i := 8) (N := some 112) (v := undef) (a' := ?_) #[true, true, true, true, true, true, true, true, true, false, false, false, false, false, false, false, false, false, false, false, false, false, false, false, false, false, false, false, false, false, false, false] rfl rfl (any_of HT_.out (by kernel_rfl)) (fun _ _ _ h => h) (Or.inr ⟨by rfl, rfl⟩) ?_ ?_
                    rotate_left
                    · simp only [Act.put, List.setIfInBounds_toArray, List.set_cons_zero, List.set_cons_succ, i64_w, i32_w]
                      rfl
                    refine pure_ (i := 9) (N := some 113) (v := undef) (a' := ?_) #[true, true, true, true, true, true, true, true, true, true, false, false, false, false, false, false, false, false, false, false, false, false, false, false, false, false, false, false, false, false, false, false] rfl rfl (any_of HT_.out (by kernel_rfl)) (fun _ _ _ h => h) (Or.inr ⟨by rfl, rfl⟩) ?_ ?_
                    rotate_left
                    · simp only [Act.put, List.setIfInBounds_toArray, List.set_cons_zero, List.set_cons_succ, i64_w, i32_w]
                      rfl
                    refine pure_ (i := 10) (N := some 114) (v := undef) (a' := ?_) #[true, true, true, true, true, true, true, true, true, true, true, false, false, false, false, false, false, false, false, false, false, false, false, false, false, false, false, false, false, false, false, false] rfl rfl (any_of HT_.out (by kernel_rfl)) (fun _ _ _ h => h) (Or.inr ⟨by rfl, rfl⟩) ?_ ?_
                    rotate_left
                    · simp only [Act.put, List.setIfInBounds_toArray, List.set_cons_zero, List.set_cons_succ, i64_w, i32_w]
                      rfl
                    refine pure_ (i := 11) (N := some 115) (v := undef) (a' := ?_) #[true, true, true, true, true, true, true, true, true, true, true, true, false, false, false, false, false, false, false, false, false, false, false, false, false, false, false, false, false, false, false, false] rfl rfl (any_of HT_.out (by kernel_rfl)) (fun _ _ _ h => h) (Or.inr ⟨by rfl, rfl⟩) ?_ ?_
                    rotate_left
                    · simp only [Act.put, List.setIfInBounds_toArray, List.set_cons_zero, List.set_cons_succ, i64_w, i32_w]
                      rfl
                    refine pure_ (i := 12) (N := some 116) (v := undef) (a' := ?_) #[true, true, true, true, true, true, true, true, true, true, true, true, true, false, false, false, false, false, false, false, false, false, false, false, false, false, false, false, false, false, false, false] rfl rfl (any_of HT_.out (by kernel_rfl)) (fun _ _ _ h => h) (Or.inr ⟨by rfl, rfl⟩) ?_ ?_
                    rotate_left
                    · simp only [Act.put, List.setIfInBounds_toArray, List.set_cons_zero, List.set_cons_succ, i64_w, i32_w]
                      rfl
                    refine pure_ (i := 13) (N := some 117) (v := undef) (a' := ?_) #[true, true, true, true, true, true, true, true, true, true, true, true, true, true, false, false, false, false, false, false, false, false, false, false, false, false, false, false, false, false, false, false] rfl rfl (any_of HT_.out (by kernel_rfl)) (fun _ _ _ h => h) (Or.inr ⟨by rfl, rfl⟩) ?_ ?_
                    rotate_left
                    · simp only [Act.put, List.setIfInBounds_toArray, List.set_cons_zero, List.set_cons_succ, i64_w, i32_w]
                      rfl
                    refine pure_ (i := 14) (N := some 118) (v := undef) (a' := ?_) #[true, true, true, true, true, true, true, true, true, true, true, true, true, true, true, false, false, false, false, false, false, false, false, false, false, false, false, false, false, false, false, false] rfl rfl (any_of HT_.out (by kernel_rfl)) (fun _ _ _ h => h) (Or.inr ⟨by rfl, rfl⟩) ?_ ?_
                    rotate_left
                    · simp only [Act.put, List.setIfInBounds_toArray, List.set_cons_zero, List.set_cons_succ, i64_w, i32_w]
                      rfl
                    refine pure_ (i := 15) (N := some 119) (v := undef) (a' := ?_) #[true, true, true, true, true, true, true, true, true, true, true, true, true, true, true, true, false, false, false, false, false, false, false, false, false, false, false, false, false, false, false, false] rfl rfl (any_of HT_.out (by kernel_rfl)) (fun _ _ _ h => h) (Or.inr ⟨by rfl, rfl⟩) ?_ ?_
                    rotate_left
                    · simp only [Act.put, List.setIfInBounds_toArray, List.set_cons_zero, List.set_cons_succ, i64_w, i32_w]
                      rfl
                    refine pure_ (i := 16) (N := some 120) (v := undef) (a' := ?_) #[true, true, true, true, true, true, true, true, true, true, true, true, true, true, true, true, true, false, false, false, false, false, false, false, false, false, false, false, false, false, false, false] rfl rfl (any_of HT_.out (by kernel_rfl)) (fun _ _ _ h => h) (Or.inr ⟨by rfl, rfl⟩) ?_ ?_
                    rotate_left
                    · simp only [Act.put, List.setIfInBounds_toArray, List.set_cons_zero, List.set_cons_succ, i64_w, i32_w]
                      rfl
                    refine pure_ (i := 17) (N := some 121) (v := undef) (a' := ?_) #[true, true, true, true, true, true, true, true, true, true, true, true, true, true, true, true, true, true, false, false, false, false, false, false, false, false, false, false, false, false, false, false] rfl rfl (any_of HT_.out (by kernel_rfl)) (fun _ _ _ h => h) (Or.inr ⟨by rfl, rfl⟩) ?_ ?_
                    rotate_left
                    · simp only [Act.put, List.setIfInBounds_toArray, List.set_cons_zero, List.set_cons_succ, i64_w, i32_w]
                      rfl
                    refine pure_ (i := 18) (N := some 122) (v := undef) (a' := ?_) #[true, true, true, true, true, true, true, true, true, true, true, true, true, true, true, true, true, true, true, false, false, false, false, false, false, false, false, false, false, false, false, false] rfl rfl (any_of HT_.out (by kernel_rfl)) (fun _ _ _ h => h) (Or.inr ⟨by rfl, rfl⟩) ?_ ?_
                    rotate_left
                    · simp only [Act.put, List.setIfInBounds_toArray, List.set_cons_zero, List.set_cons_succ, i64_w, i32_w]
                      rfl
                    refine pure_ (i := 19) (N := some 123) (v := undef) (a' := ?_) #[true, true, true, true, true, true, true, true, true, true, true, true, true, true, true, true, true, true, true, true, false, false, false, false, false, false, false, false, false, false, false, false] rfl rfl (any_of HT_.out (by kernel_rfl)) (fun _ _ _ h => h) (Or.inr ⟨by rfl, rfl⟩) ?_ ?_
                    rotate_left
                    · simp only [Act.put, List.setIfInBounds_toArray, List.set_cons_zero, List.set_cons_succ, i64_w, i32_w]
                      rfl
                    refine pure_ (i := 20) (N := some 124) (v := undef) (a' := ?_) #[true, true, true, true, true, true, true, true, true, true, true, true, true, true, true, true, true, true, true, true, true, false, false, false, false, false, false, false, false, false, false, false] rfl rfl (any_of HT_.out (by kernel_rfl)) (fun _ _ _ h => h) (Or.inr ⟨by rfl, rfl⟩) ?_ ?_
                    rotate_left
                    · simp only [Act.put, List.setIfInBounds_toArray, List.set_cons_zero, List.set_cons_succ, i64_w, i32_w]
                      rfl
                    refine pure_ (i := 21) (N := some 125) (v := undef) (a' := ?_) #[true, true, true, true, true, true, true, true, true, true, true, true, true, true, true, true, true, true, true, true, true, true, false, false, false, false, false, false, false, false, false, false] rfl rfl (any_of HT_.out (by kernel_rfl)) (fun _ _ _ h => h) (Or.inr ⟨by rfl, rfl⟩) ?_ ?_
                    rotate_left
                    · simp only [Act.put, List.setIfInBounds_toArray, List.set_cons_zero, List.set_cons_succ, i64_w, i32_w]
                      rfl
                    refine pure_ (i := 22) (N := some 126) (v := undef) (a' := ?_) #[true, true, true, true, true, true, true, true, true, true, true, true, true, true, true, true, true, true, true, true, true, true, true, false, false, false, false, false, false, false, false, false] rfl rfl (any_of HT_.out (by kernel_rfl)) (fun _ _ _ h => h) (Or.inr ⟨by rfl, rfl⟩) ?_ ?_
                    rotate_left
                    · simp only [Act.put, List.setIfInBounds_toArray, List.set_cons_zero, List.set_cons_succ, i64_w, i32_w]
                      rfl
                    refine pure_ (i := 23) (N := some 127) (v := undef) (a' := ?_) #[true, true, true, true, true, true, true, true, true, true, true, true, true, true, true, true, true, true, true, true, true, true, true, true, false, false, false, false, false, false, false, false] rfl rfl (any_of HT_.out (by kernel_rfl)) (fun _ _ _ h => h) (Or.inr ⟨by rfl, rfl⟩) ?_ ?_
                    rotate_left
                    · simp only [Act.put, List.setIfInBounds_toArray, List.set_cons_zero, List.set_cons_succ, i64_w, i32_w]
                      rfl
                    refine pure_ (i := 24) (N := some 128) (v := undef) (a' := ?_) #[true, true, true, true, true, true, true, true, true, true, true, true, true, true, true, true, true, true, true, true, true, true, true, true, true, false, false, false, false, false, false, false] rfl rfl (any_of HT_.out (by kernel_rfl)) (fun _ _ _ h => h) (Or.inr ⟨by rfl, rfl⟩) ?_ ?_
                    rotate_left
                    · simp only [Act.put, List.setIfInBounds_toArray, List.set_cons_zero, List.set_cons_succ, i64_w, i32_w]
                      rfl
                    refine pure_ (i := 25) (N := some 129) (v := undef) (a' := ?_) #[true, true, true, true, true, true, true, true, true, true, true, true, true, true, true, true, true, true, true, true, true, true, true, true, true, true, false, false, false, false, false, false] rfl rfl (any_of HT_.out (by kernel_rfl)) (fun _ _ _ h => h) (Or.inr ⟨by rfl, rfl⟩) ?_ ?_
                    rotate_left
                    · simp only [Act.put, List.setIfInBounds_toArray, List.set_cons_zero, List.set_cons_succ, i64_w, i32_w]
                      rfl
                    refine pure_ (i := 26) (N := some 130) (v := undef) (a' := ?_) #[true, true, true, true, true, true, true, true, true, true, true, true, true, true, true, true, true, true, true, true, true, true, true, true, true, true, true, false, false, false, false, false] rfl rfl (any_of HT_.out (by kernel_rfl)) (fun _ _ _ h => h) (Or.inr ⟨by rfl, rfl⟩) ?_ ?_
                    rotate_left
                    · simp only [Act.put, List.setIfInBounds_toArray, List.set_cons_zero, List.set_cons_succ, i64_w, i32_w]
                      rfl
                    refine pure_ (i := 27) (N := some 131) (v := undef) (a' := ?_) #[true, true, true, true, true, true, true, true, true, true, true, true, true, true, true, true, true, true, true, true, true, true, true, true, true, true, true, true, false, false, false, false] rfl rfl (any_of HT_.out (by kernel_rfl)) (fun _ _ _ h => h) (Or.inr ⟨by rfl, rfl⟩) ?_ ?_
                    rotate_left
                    · simp only [Act.put, List.setIfInBounds_toArray, List.set_cons_zero, List.set_cons_succ, i64_w, i32_w]
                      rfl
                    refine pure_ (i := 28) (N := some 132) (v := undef) (a' := ?_) #[true, true, true, true, true, true, true, true, true, true, true, true, true, true, true, true, true, true, true, true, true, true, true, true, true, true, true, true, true, false, false, false] rfl rfl (any_of HT_.out (by kernel_rfl)) (fun _ _ _ h => h) (Or.inr ⟨by rfl, rfl⟩) ?_ ?_
                    rotate_left
                    · simp only [Act.put, List.setIfInBounds_toArray, List.set_cons_zero, List.set_cons_succ, i64_w, i32_w]
                      rfl
                    refine pure_ (i := 29) (N := some 133) (v := undef) (a' := ?_) #[true, true, true, true, true, true, true, true, true, true, true, true, true, true, true, true, true, true, true, true, true, true, true, true, true, true, true, true, true, true, false, false] rfl rfl (any_of HT_.out (by kernel_rfl)) (fun _ _ _ h => h) (Or.inr ⟨by rfl, rfl⟩) ?_ ?_
                    rotate_left
                    · simp only [Act.put, List.setIfInBounds_toArray, List.set_cons_zero, List.set_cons_succ, i64_w, i32_w]
                      rfl
                    refine pure_ (i := 30) (N := some 134) (v := undef) (a' := ?_) #[true, true, true, true, true, true, true, true, true, true, true, true, true, true, true, true, true, true, true, true, true, true, true, true, true, true, true, true, true, true, true, false] rfl rfl (any_of HT_.out (by kernel_rfl)) (fun _ _ _ h => h) (Or.inr ⟨by rfl, rfl⟩) ?_ ?_
                    rotate_left
                    · simp only [Act.put, List.setIfInBounds_toArray, List.set_cons_zero, List.set_cons_succ, i64_w, i32_w]
                      rfl
                    refine pure_ (i := 31) (N := some 135) (v := ?_) (a' := ?_) #[true, true, true, true, true, true, true, true, true, true, true, true, true, true, true, true, true, true, true, true, true, true, true, true, true, true, true, true, true, true, true, true] rfl rfl (any_of HT_.out (by kernel_rfl)) (fun _ _ _ h => h) (Or.inl ⟨by rfl, ?_⟩) ?_ ?_
                    rotate_left
                    · intro w'
                      go_simp
                      with_reducible rfl
                    rotate_left
                    · simp only [Act.put, List.setIfInBounds_toArray, List.set_cons_zero, List.set_cons_succ, i64_w, i32_w]
                      rfl
                    refine done_ (done_of HT_.out (by kernel_rfl)) ?_

                    clear hHeld HT_ HW_
                    go_wp2_with fail
                    go_roundw
                    case rel => exact ⟨q + 1, by omega, by go_num, ⟨HM.out⟩, ⟨by rw [← hDl]; exact Kd.R_drew (by rw [hDl]; exact HO.out)⟩, ⟨HB.out.drew⟩⟩
                    case measure => simp [intOf]; omega
                  · have hb9 : (x == 9) = false := beq_eq_false_iff_ne.2 hx9
                    rw [hb9] at hy0
                    have hrc := hw.resolve_left hx9
                    have hrg := hrc.range HG.out
                    have hmark := HAll.out _ _ hrc
                    obtain ⟨xx, hxx⟩ := Int.eq_ofNat_of_zero_le (show 0 ≤ x + 1 by omega)
                    rw [hxx, Int.toNat_natCast, Int.toNat_natCast] at hmark
                    have hx1 : x = (xx : Int) - 1 := by omega
                    subst hx1
                    have hx5 : xx < 5 := by omega
                    clear hxx hrg hrc hw hx9 hb9
                    have hcM := HM.out.cell (q * 6 + xx) (by rw [HLn.out]; omega)
                    rw [hmark] at hcM
                    have hp1 : decide ((xx : Int) - 1 < -1) = false := decide_eq_false (by omega)
                    have hp2 : decide (3 < (xx : Int) - 1) = false := decide_eq_false (by omega)
                    have hp6 : (xx : Int) < 6 := by omega
                    have hp0 : (0 : Int) ≤ xx := by omega
                    have hw6 : wrap64 (xx : Int) = (xx : Int) := wrap_in (by omega) (by omega)
                    clear hmark
                    go_wp2_with fail
                    refine start_ (n := 32) (S := fun w' => w'.cell? ⟨gd, q, none⟩ = some (.bool false) ∧ w'.cell? (ad.add q) = some (.int .i64 ((xx : Int) - 1)) ∧ w'.cell? ⟨gr, q * 6 + xx, none⟩ = some (.bool true)) (ds := []) #[false, false, false, false, false, false, false, false, false, false, false, false, false, false, false, false, false, false, false, false, false, false, false, false, false, false, false, false, false, false, false, false] (by kernel_rfl) rfl rfl ⟨hy0, hx0, hcM⟩ (fun hHeld => ?_)
                    refine with_tabW TAB_18.tab31 TAB_18.bits31 (fun HT_ HW_ => ?_)
                    refine pure_ (i := 0) (N := some 104) (v := ?_) (a' := ?_) #[true, false, false, false, false, false, false, false, false, false, false, false, false, false, false, false, false, false, false, false, false, false, false, false, false, false, false, false, false, false, false, false] rfl rfl (any_of HT_.out (by kernel_rfl)) (fun _ _ _ h => h) (Or.inl ⟨by rfl, ?_⟩) ?_ ?_
                    rotate_left
                    · intro w'
                      go_simp
                      with_reducible rfl
                    rotate_left
                    · simp only [Act.put, List.setIfInBounds_toArray, List.set_cons_zero, List.set_cons_succ, i64_w, i32_w]
                      rfl
                    refine pure_ (i := 1) (N := some 105) (v := ?_) (a' := ?_) #[true, true, false, false, false, false, false, false, false, false, false, false, false, false, false, false, false, false, false, false, false, false, false, false, false, false, false, false, false, false, false, false] rfl rfl (any_of HT_.out (by kernel_rfl)) (fun _ _ _ h => h) (Or.inl ⟨by rfl, ?_⟩) ?_ ?_
                    rotate_left
                    · intro w'
                      go_simp
                      with_reducible rfl
                    rotate_left
                    · simp only [Act.put, List.setIfInBounds_toArray, List.set_cons_zero, List.set_cons_succ, i64_w, i32_w]
                      rfl
                    refine pure_ (i := 2) (N := some 106) (v := ?_) (a' := ?_) #[true, true, true, false, false, false, false, false, false, false, false, false, false, false, false, false, false, false, false, false, false, false, false, false, false, false, false, false, false, false, false, false] rfl rfl (any_of HT_.out (by kernel_rfl)) (fun _ _ _ h => h) (Or.inl ⟨by rfl, ?_⟩) ?_ ?_
                    rotate_left
                    · intro w'
                      go_simp
                      with_reducible rfl
                    rotate_left
                    · simp only [Act.put, List.setIfInBounds_toArray, List.set_cons_zero, List.set_cons_succ, i64_w, i32_w]
                      rfl
                    refine take_ (i := 3) (N := some 107) (v := ?_) (a' := ?_) #[true, true, true, true, false, false, false, false, false, false, false, false, false, false, false, false, false, false, false, false, false, false, false, false, false, false, false, false, false, false, false, false] rfl rfl (take_ofW HT_.out HW_.out (by kernel_rfl)) (fun _ _ _ h => h) (Or.inl ⟨by rfl, ?_⟩) hHeld ?_ ?_
                    rotate_left
                    · rintro w' ⟨s0, s1, s2⟩
                      go_simp
                      with_reducible rfl
                    rotate_left
                    · simp only [Act.put, List.setIfInBounds_toArray, List.set_cons_zero, List.set_cons_succ, i64_w, i32_w]
                      rfl
                    refine pure_ (i := 4) (N := some 108) (v := ?_) (a' := ?_) #[true, true, true, true, true, false, false, false, false, false, false, false, false, false, false, false, false, false, false, false, false, false, false, false, false, false, false, false, false, false, false, false] rfl rfl (any_of HT_.out (by kernel_rfl)) (fun _ _ _ h => h) (Or.inl ⟨by rfl, ?_⟩) ?_ ?_
                    rotate_left
                    · intro w'
                      go_simp
                      with_reducible rfl
                    rotate_left
                    · simp only [Act.put, List.setIfInBounds_toArray, List.set_cons_zero, List.set_cons_succ, i64_w, i32_w]
                      rfl
                    refine pure_ (i := 5) (N := some 109) (v := ?_) (a' := ?_) #[true, true, true, true, true, true, false, false, false, false, false, false, false, false, false, false, false, false, false, false, false, false, false, false, false, false, false, false, false, false, false, false] rfl rfl (any_of HT_.out (by kernel_rfl)) (fun _ _ _ h => h) (Or.inl ⟨by rfl, ?_⟩) ?_ ?_
                    rotate_left
                    · intro w'
                      go_simp
                      with_reducible rfl
                    rotate_left
                    · simp only [Act.put, List.setIfInBounds_toArray, List.set_cons_zero, List.set_cons_succ, i64_w, i32_w]
                      rfl
                    refine pure_ (i := 6) (N := some 110) (v := ?_) (a' := ?_) #[true, true, true, true, true, true, true, false, false, false, false, false, false, false, false, false, false, false, false, false, false, false, false, false, false, false, false, false, false, false, false, false] rfl rfl (any_of HT_.out (by kernel_rfl)) (fun _ _ _ h => h) (Or.inl ⟨by rfl, ?_⟩) ?_ ?_
                    rotate_left
                    · intro w'
                      go_simp
                      with_reducible rfl
                    rotate_left
                    · simp only [Act.put, List.setIfInBounds_toArray, List.set_cons_zero, List.set_cons_succ, i64_w, i32_w]
                      rfl
                    refine pure_ (i := 7) (N := some 111) (v := ?_) (a' := ?_) #[true, true, true, true, true, true, true, true, false, false, false, false, false, false, false, false, false, false, false, false, false, false, false, false, false, false, false, false, false, false, false, false] rfl rfl (any_of HT_.out (by kernel_rfl)) (fun _ _ _ h => h) (Or.inl ⟨by rfl, ?_⟩) ?_ ?_
                    rotate_left
                    · intro w'
                      go_simp
                      with_reducible rfl
                    rotate_left
                    · simp only [Act.put, List.setIfInBounds_toArray, List.set_cons_zero, List.set_cons_succ, i64_w, i32_w]
                      rfl
                    refine pure_ (i := 8) (N := some 112) (v := ?_) (a' := ?_) #[true, true, true, true, true, true, true, true, true, false, false, false, false, false, false, false, false, false, false, false, false, false, false, false, false, false, false, false, false, false, false, false] rfl rfl (any_of HT_.out (by kernel_rfl)) (fun _ _ _ h => h) (Or.inl ⟨by rfl, ?_⟩) ?_ ?_
                    rotate_left
                    · intro w'
                      go_simp
                      with_reducible rfl
                    rotate_left
                    · simp only [Act.put, List.setIfInBounds_toArray, List.set_cons_zero, List.set_cons_succ, i64_w, i32_w]
                      rfl
                    refine take_ (i := 9) (N := some 113) (v := ?_) (a' := ?_) #[true, true, true, true, true, true, true, true, true, true, false, false, false, false, false, false, false, false, false, false, false, false, false, false, false, false, false, false, false, false, false, false] rfl rfl (take_ofW HT_.out HW_.out (by kernel_rfl)) (fun _ _ _ h => h) (Or.inl ⟨by rfl, ?_⟩) hHeld ?_ ?_
                    rotate_left
                    · rintro w' ⟨s0, s1, s2⟩
                      go_simp
                      with_reducible rfl
                    rotate_left
                    · simp only [Act.put, List.setIfInBounds_toArray, List.set_cons_zero, List.set_cons_succ, i64_w, i32_w]
                      rfl
                    refine pure_ (i := 10) (N := some 114) (v := ?_) (a' := ?_) #[true, true, true, true, true, true, true, true, true, true, true, false, false, false, false, false, false, false, false, false, false, false, false, false, false, false, false, false, false, false, false, false] rfl rfl (any_of HT_.out (by kernel_rfl)) (fun _ _ _ h => h) (Or.inl ⟨by rfl, ?_⟩) ?_ ?_
                    rotate_left
                    · intro w'
                      go_simp
                      with_reducible rfl
                    rotate_left
                    · simp only [Act.put, List.setIfInBounds_toArray, List.set_cons_zero, List.set_cons_succ, i64_w, i32_w]
                      rfl
                    refine pure_ (i := 11) (N := some 115) (v := ?_) (a' := ?_) #[true, true, true, true, true, true, true, true, true, true, true, true, false, false, false, false, false, false, false, false, false, false, false, false, false, false, false, false, false, false, false, false] rfl rfl (any_of HT_.out (by kernel_rfl)) (fun _ _ _ h => h) (Or.inl ⟨by rfl, ?_⟩) ?_ ?_
                    rotate_left
                    · intro w'
                      go_simp
                      with_reducible rfl
                    rotate_left
                    · simp only [Act.put, List.setIfInBounds_toArray, List.set_cons_zero, List.set_cons_succ, i64_w, i32_w]
                      rfl
                    refine pure_ (i := 12) (N := some 116) (v := ?_) (a' := ?_) #[true, true, true, true, true, true, true, true, true, true, true, true, true, false, false, false, false, false, false, false, false, false, false, false, false, false, false, false, false, false, false, false] rfl rfl (any_of HT_.out (by kernel_rfl)) (fun _ _ _ h => h) (Or.inl ⟨by rfl, ?_⟩) ?_ ?_
                    rotate_left
                    · intro w'
                      go_simp
                      with_reducible rfl
                    rotate_left
                    · simp only [Act.put, List.setIfInBounds_toArray, List.set_cons_zero, List.set_cons_succ, i64_w, i32_w]
                      rfl
                    refine pure_ (i := 13) (N := some 117) (v := ?_) (a' := ?_) #[true, true, true, true, true, true, true, true, true, true, true, true, true, true, false, false, false, false, false, false, false, false, false, false, false, false, false, false, false, false, false, false] rfl rfl (any_of HT_.out (by kernel_rfl)) (fun _ _ _ h => h) (Or.inl ⟨by rfl, ?_⟩) ?_ ?_
                    rotate_left
                    · intro w'
                      go_simp
                      with_reducible rfl
                    rotate_left
                    · simp only [Act.put, List.setIfInBounds_toArray, List.set_cons_zero, List.set_cons_succ, i64_w, i32_w]
                      rfl
                    refine pure_ (i := 14) (N := some 118) (v := ?_) (a' := ?_) #[true, true, true, true, true, true, true, true, true, true, true, true, true, true, true, false, false, false, false, false, false, false, false, false, false, false, false, false, false, false, false, false] rfl rfl (any_of HT_.out (by kernel_rfl)) (fun _ _ _ h => h) (Or.inl ⟨by rfl, ?_⟩) ?_ ?_
                    rotate_left
                    · intro w'
                      go_simp
                      with_reducible rfl
                    rotate_left
                    · simp only [Act.put, List.setIfInBounds_toArray, List.set_cons_zero, List.set_cons_succ, i64_w, i32_w]
                      rfl
                    refine take_ (i := 15) (N := some 119) (v := ?_) (a' := ?_) #[true, true, true, true, true, true, true, true, true, true, true, true, true, true, true, true, false, false, false, false, false, false, false, false, false, false, false, false, false, false, false, false] rfl rfl (take_ofW HT_.out HW_.out (by kernel_rfl)) (fun _ _ _ h => h) (Or.inl ⟨by rfl, ?_⟩) hHeld ?_ ?_
                    rotate_left
                    · rintro w' ⟨s0, s1, s2⟩
                      go_simp
                      with_reducible rfl
                    rotate_left
                    · simp only [Act.put, List.setIfInBounds_toArray, List.set_cons_zero, List.set_cons_succ, i64_w, i32_w]
                      rfl
                    refine pure_ (i := 16) (N := some 120) (v := ?_) (a' := ?_) #[true, true, true, true, true, true, true, true, true, true, true, true, true, true, true, true, true, false, false, false, false, false, false, false, false, false, false, false, false, false, false, false] rfl rfl (any_of HT_.out (by kernel_rfl)) (fun _ _ _ h => h) (Or.inl ⟨by rfl, ?_⟩) ?_ ?_
                    rotate_left
                    · intro w'
                      go_simp
                      with_reducible rfl
                    rotate_left
                    · simp only [Act.put, List.setIfInBounds_toArray, List.set_cons_zero, List.set_cons_succ, i64_w, i32_w]
                      rfl
                    refine pure_ (i := 17) (N := some 121) (v := ?_) (a' := ?_) #[true, true, true, true, true, true, true, true, true, true, true, true, true, true, true, true, true, true, false, false, false, false, false, false, false, false, false, false, false, false, false, false] rfl rfl (any_of HT_.out (by kernel_rfl)) (fun _ _ _ h => h) (Or.inl ⟨by rfl, ?_⟩) ?_ ?_
                    rotate_left
                    · intro w'
                      go_simp
                      with_reducible rfl
                    rotate_left
                    · simp only [Act.put, List.setIfInBounds_toArray, List.set_cons_zero, List.set_cons_succ, i64_w, i32_w]
                      rfl
                    refine pure_ (i := 18) (N := some 122) (v := ?_) (a' := ?_) #[true, true, true, true, true, true, true, true, true, true, true, true, true, true, true, true, true, true, true, false, false, false, false, false, false, false, false, false, false, false, false, false] rfl rfl (any_of HT_.out (by kernel_rfl)) (fun _ _ _ h => h) (Or.inl ⟨by rfl, ?_⟩) ?_ ?_
                    rotate_left
                    · intro w'
                      go_simp
                      with_reducible rfl
                    rotate_left
                    · simp only [Act.put, List.setIfInBounds_toArray, List.set_cons_zero, List.set_cons_succ, i64_w, i32_w]
                      rfl
                    refine pure_ (i := 19) (N := some 123) (v := ?_) (a' := ?_) #[true, true, true, true, true, true, true, true, true, true, true, true, true, true, true, true, true, true, true, true, false, false, false, false, false, false, false, false, false, false, false, false] rfl rfl (any_of HT_.out (by kernel_rfl)) (fun _ _ _ h => h) (Or.inl ⟨by rfl, ?_⟩) ?_ ?_
                    rotate_left
                    · intro w'
                      go_simp
                      with_reducible rfl
                    rotate_left
                    · simp only [Act.put, List.setIfInBounds_toArray, List.set_cons_zero, List.set_cons_succ, i64_w, i32_w]
                      rfl
                    refine pure_ (i := 20) (N := some 124) (v := ?_) (a' := ?_) #[true, true, true, true, true, true, true, true, true, true, true, true, true, true, true, true, true, true, true, true, true, false, false, false, false, false, false, false, false, false, false, false] rfl rfl (any_of HT_.out (by kernel_rfl)) (fun _ _ _ h => h) (Or.inl ⟨by rfl, ?_⟩) ?_ ?_
                    rotate_left
                    · intro w'
                      go_simp
                      with_reducible rfl
                    rotate_left
                    · simp only [Act.put, List.setIfInBounds_toArray, List.set_cons_zero, List.set_cons_succ, i64_w, i32_w]
                      rfl
                    refine pure_ (i := 21) (N := some 125) (v := ?_) (a' := ?_) #[true, true, true, true, true, true, true, true, true, true, true, true, true, true, true, true, true, true, true, true, true, true, false, false, false, false, false, false, false, false, false, false] rfl rfl (any_of HT_.out (by kernel_rfl)) (fun _ _ _ h => h) (Or.inl ⟨by rfl, ?_⟩) ?_ ?_
                    rotate_left
                    · intro w'
                      go_simp
                      with_reducible rfl
                    rotate_left
                    · simp only [Act.put, List.setIfInBounds_toArray, List.set_cons_zero, List.set_cons_succ, i64_w, i32_w]
                      rfl
                    refine pure_ (i := 22) (N := some 126) (v := ?_) (a' := ?_) #[true, true, true, true, true, true, true, true, true, true, true, true, true, true, true, true, true, true, true, true, true, true, true, false, false, false, false, false, false, false, false, false] rfl rfl (any_of HT_.out (by kernel_rfl)) (fun _ _ _ h => h) (Or.inl ⟨by rfl, ?_⟩) ?_ ?_
                    rotate_left
                    · intro w'
                      go_simp
                      with_reducible rfl
                    rotate_left
                    · simp only [Act.put, List.setIfInBounds_toArray, List.set_cons_zero, List.set_cons_succ, i64_w, i32_w]
                      rfl
                    refine pure_ (i := 23) (N := some 127) (v := ?_) (a' := ?_) #[true, true, true, true, true, true, true, true, true, true, true, true, true, true, true, true, true, true, true, true, true, true, true, true, false, false, false, false, false, false, false, false] rfl rfl (any_of HT_.out (by kernel_rfl)) (fun _ _ _ h => h) (Or.inl ⟨by rfl, ?_⟩) ?_ ?_
                    rotate_left
                    · intro w'
                      go_simp
                      with_reducible rfl
                    rotate_left
                    · simp only [Act.put, List.setIfInBounds_toArray, List.set_cons_zero, List.set_cons_succ, i64_w, i32_w]
                      rfl
                    refine pure_ (i := 26) (N := some 130) (v := ?_) (a' := ?_) #[true, true, true, true, true, true, true, true, true, true, true, true, true, true, true, true, true, true, true, true, true, true, true, true, false, false, true, false, false, false, false, false] rfl rfl (any_of HT_.out (by kernel_rfl)) (fun _ _ _ h => h) (Or.inl ⟨by rfl, ?_⟩) ?_ ?_
                    rotate_left
                    · intro w'
                      go_simp
                      with_reducible rfl
                    rotate_left
                    · simp only [Act.put, List.setIfInBounds_toArray, List.set_cons_zero, List.set_cons_succ, i64_w, i32_w]
                      rfl
                    refine take_ (i := 24) (N := some 128) (v := ?_) (a' := ?_) #[true, true, true, true, true, true, true, true, true, true, true, true, true, true, true, true, true, true, true, true, true, true, true, true, true, false, true, false, false, false, false, false] rfl rfl (take_ofW HT_.out HW_.out (by kernel_rfl)) (fun _ _ _ h => h) (Or.inl ⟨by rfl, ?_⟩) hHeld ?_ ?_
                    rotate_left
                    · rintro w' ⟨s0, s1, s2⟩
                      go_simp
                      with_reducible rfl
                    rotate_left
                    · simp only [Act.put, List.setIfInBounds_toArray, List.set_cons_zero, List.set_cons_succ, i64_w, i32_w]
                      rfl
                    refine pure_ (i := 25) (N := some 129) (v := ?_) (a' := ?_) #[true, true, true, true, true, true, true, true, true, true, true, true, true, true, true, true, true, true, true, true, true, true, true, true, true, true, true, false, false, false, false, false] rfl rfl (any_of HT_.out (by kernel_rfl)) (fun _ _ _ h => h) (Or.inl ⟨by rfl, ?_⟩) ?_ ?_
                    rotate_left
                    · intro w'
                      go_simp
                      with_reducible rfl
                    rotate_left
                    · simp only [Act.put, List.setIfInBounds_toArray, List.set_cons_zero, List.set_cons_succ, i64_w, i32_w]
                      rfl
                    refine pure_ (i := 27) (N := some 131) (v := ?_) (a' := ?_) #[true, true, true, true, true, true, true, true, true, true, true, true, true, true, true, true, true, true, true, true, true, true, true, true, true, true, true, true, false, false, false, false] rfl rfl (any_of HT_.out (by kernel_rfl)) (fun _ _ _ h => h) (Or.inl ⟨by rfl, ?_⟩) ?_ ?_
                    rotate_left
                    · intro w'
                      go_simp
                      with_reducible rfl
                    rotate_left
                    · simp only [Act.put, List.setIfInBounds_toArray, List.set_cons_zero, List.set_cons_succ, i64_w, i32_w]
                      rfl
                    refine take_ (i := 28) (N := some 132) (v := ?_) (a' := ?_) #[true, true, true, true, true, true, true, true, true, true, true, true, true, true, true, true, true, true, true, true, true, true, true, true, true, true, true, true, true, false, false, false] rfl rfl (take_ofW HT_.out HW_.out (by kernel_rfl)) (fun _ _ _ h => h) (Or.inl ⟨by rfl, ?_⟩) hHeld ?_ ?_
                    rotate_left
                    · rintro w' ⟨s0, s1, s2⟩
                      go_simp
                      with_reducible rfl
                    rotate_left
                    · simp only [Act.put, List.setIfInBounds_toArray, List.set_cons_zero, List.set_cons_succ, i64_w, i32_w]
                      rfl
                    refine pure_ (i := 29) (N := some 133) (v := ?_) (a' := ?_) #[true, true, true, true, true, true, true, true, true, true, true, true, true, true, true, true, true, true, true, true, true, true, true, true, true, true, true, true, true, true, false, false] rfl rfl (any_of HT_.out (by kernel_rfl)) (fun _ _ _ h => h) (Or.inl ⟨by rfl, ?_⟩) ?_ ?_
                    rotate_left
                    · intro w'
                      go_simp
                      with_reducible rfl
                    rotate_left
                    · simp only [Act.put, List.setIfInBounds_toArray, List.set_cons_zero, List.set_cons_succ, i64_w, i32_w]
                      rfl
                    refine pure_ (i := 30) (N := some 134) (v := ?_) (a' := ?_) #[true, true, true, true, true, true, true, true, true, true, true, true, true, true, true, true, true, true, true, true, true, true, true, true, true, true, true, true, true, true, true, false] rfl rfl (any_of HT_.out (by kernel_rfl)) (fun _ _ _ h => h) (Or.inl ⟨by rfl, ?_⟩) ?_ ?_
                    rotate_left
                    · intro w'
                      go_simp
                      with_reducible rfl
                    rotate_left
                    · simp only [Act.put, List.setIfInBounds_toArray, List.set_cons_zero, List.set_cons_succ, i64_w, i32_w]
                      rfl
                    refine pure_ (i := 31) (N := some 135) (v := ?_) (a' := ?_) #[true, true, true, true, true, true, true, true, true, true, true, true, true, true, true, true, true, true, true, true, true, true, true, true, true, true, true, true, true, true, true, true] rfl rfl (any_of HT_.out (by kernel_rfl)) (fun _ _ _ h => h) (Or.inl ⟨by rfl, ?_⟩) ?_ ?_
                    rotate_left
                    · intro w'
                      go_simp
                      with_reducible rfl
                    rotate_left
                    · simp only [Act.put, List.setIfInBounds_toArray, List.set_cons_zero, List.set_cons_succ, i64_w, i32_w]
                      rfl
                    refine done_ (done_of HT_.out (by kernel_rfl)) ?_

                    clear hHeld HT_ HW_
                    go_wp2_with fail
                    go_roundw
                    case rel => exact ⟨q + 1, by omega, by go_num, ⟨HM.out⟩, ⟨by rw [← hDl]; exact Kd.R_drew (by rw [hDl]; exact HO.out)⟩, ⟨HB.out.drew⟩⟩
                    case measure => simp [intOf]; omega
                · obtain rfl : q = l3.length := by omega
                  clear hlt hq
                  go_wp2
                  go_ret
                  exact ⟨rfl, HB.out⟩
def fuguelaw06_tight.f (a0_0 : Int) (l0_1 : List S41) (l0_2 : List Int) (l1 : List Int) : Option Bool :=
  if l0_1.length < 5864062014805 then (if okG a0_0 l0_1 l0_2 = true then (if weights a0_0.toNat l0_1 l0_2 = some l1 then some true else none) else none) else none
theorem fuguelaw06_tight.calls (a0_0 : Int) (A0_1 : Option Addr) (c0_1 : Nat) (l0_1 : List (S41)) (A0_2 : Option Addr) (c0_2 : Nat) (l0_2 : List Int) (A1 : Option Addr) (c1 : Nat) (l1 : List Int) (r : Bool) (w : World) (hr0_1 : Kd.C k41 w A0_1 l0_1.length l0_1) (hc0_1 : l0_1.length ≤ c0_1) (hr0_2 : Kd.C (Kd.int .i64) w A0_2 l0_2.length l0_2) (hc0_2 : l0_2.length ≤ c0_2) (hr1 : Kd.C (Kd.int .i64) w A1 l1.length l1) (hc1 : l1.length ≤ c1) (h : fuguelaw06_tight.f a0_0 l0_1 l0_2 l1 = some r) :
    Calls Try.prog 18 #[.agg #[.int .i64 a0_0, .slice A0_1 l0_1.length c0_1, .slice A0_2 l0_2.length c0_2], .slice A1 l1.length c1] w fun e w' => e = .returned (.bool r) ∧ Below w.heap.size w w' := by
  unfold fuguelaw06_tight.f at h
  split at h
  · split at h
    · split at h
      · rename_i h1 h2 h3
        obtain rfl := Option.some.inj h
        have hs := okG_spec h2
        obtain ⟨n, rfl⟩ := Int.eq_ofNat_of_zero_le hs.1.1
        obtain ⟨b, hb, hsol⟩ := weights_sol (good_of h2)
        rw [Int.toNat_natCast] at h3
        have : b = l1 := Option.some.inj (hb.symm.trans h3)
        subst this
        exact tight_good n A0_1 c0_1 l0_1 A0_2 c0_2 l0_2 A1 c1 b w (by omega) h1 hr0_1 hc0_1 hr0_2 hc0_2 hr1 hc1 (good_of h2) hsol
      · cases h
    · cases h
  · cases h
theorem tight_f {n : Nat} {es : List S41} {rs b : List Int} (hn : n ≤ 1048576) (hl : es.length < 5864062014805) (hg : Good n es rs) (hs : Sol n es rs b) : fuguelaw06_tight.f n es rs b = some true := by
  obtain ⟨b', hb, hs'⟩ := weights_sol hg
  have : b' = b := Sol.unique hg hs' hs
  subst this
  unfold fuguelaw06_tight.f
  rw [if_pos hl, if_pos (okG_of hn hg), Int.toNat_natCast, if_pos hb]

end Go.Proofs.Ytmjdiiockddalaa.PW
