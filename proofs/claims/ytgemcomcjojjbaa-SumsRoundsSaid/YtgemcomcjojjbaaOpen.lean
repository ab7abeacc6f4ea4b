/- How what came in reads: from the reader's data down to the kinds of the print's words. Generic lemmas over any program. -/
import Derived.Test.YtgemcomcjojjbaaWWords
import Derived.Deep.Slices
import Derived.SizedLaws
import Derived.Carry
namespace Go.Proofs.Ytgemcomcjojjbaa.Open
open Go.RowKit Go.Deep Go.Proofs.YtgemcomcjojjbaaW.PrintWords
set_option linter.unusedVariables false
set_option linter.unusedSimpArgs false

/-- A type's values read by a kind; ok: what is known besides (numbers in their range, slices within the reach). -/
structure Rd (P : Program) (t : TypeId) {α : Type} (d : Kd α) (ok : α → Prop) : Prop where
  sz : P.cellsOf t = d.sz
  read : ∀ {H : Type} {enc : TypeId × Value → H} {w : World} {fuel : Nat} {cs : List Value} {x : DataW H × List MemPlace}, DataW.trod enc P w 0 (fun _ => true) true fuel t cs = some x → (∀ n ∈ x.1.weights P t, n ≤ reachBytes) → ∃ a, d.K w a cs ∧ ok a

theorem rd_int {P : Program} {t : TypeId} {k : IntKind} (ht : P.underlying t = some (.int k)) (hs : P.cellsOf t = 1) : Rd P t (Kd.int k) (fun a => (Lit.int k a).wf = true) :=
  ⟨hs, fun {H enc w fuel cs x} h _ => by
    obtain ⟨a, h1, rfl, h2⟩ := DataW.trod_int ht h
    exact ⟨a, h1, h2⟩⟩
theorem rd_bool {P : Program} {t : TypeId} (ht : P.underlying t = some .bool) (hs : P.cellsOf t = 1) : Rd P t Kd.bool (fun _ => True) :=
  ⟨hs, fun {H enc w fuel cs x} h _ => by
    obtain ⟨a, h1, _⟩ := DataW.trod_bool ht h
    exact ⟨a, h1, trivial⟩⟩
theorem rd_string {P : Program} {t : TypeId} (ht : P.underlying t = some .string) (hs : P.cellsOf t = 1) : Rd P t Kd.string (fun s => s.size ≤ 140737488351232) :=
  ⟨hs, fun {H enc w fuel cs x} h hw => by
    obtain ⟨s, h1, rfl, h2⟩ := DataW.trod_string ht h
    refine ⟨s, h1, ?_⟩
    have := hw s.data.toList.length (by simp [DataW.weights])
    simpa [reachBytes] using this⟩
theorem mem_all {H : Type} {P : Program} {e : TypeId} : ∀ {l : List (DataW H)} {d : DataW H}, d ∈ l → ∀ n ∈ d.weights P e, n ∈ DataW.weightsAll P e l
  | d' :: l, d, hd, n, hn => by
    unfold DataW.weightsAll
    rcases List.mem_cons.1 hd with rfl | hd
    · exact List.mem_append.2 (.inl hn)
    · exact List.mem_append.2 (.inr (mem_all hd n hn))
theorem rd_slice {P : Program} {t e : TypeId} {α : Type} {d : Kd α} {ok : α → Prop} [Inhabited α] (ht : P.underlying t = some (.slice e)) (hs : P.cellsOf t = 1) (he : Rd P e d ok) :
    Rd P t (Kd.slice e d) (fun xs => xs.length * P.bytesOf e ≤ 140737488351232 ∧ ∀ a ∈ xs, ok a) :=
  ⟨hs, fun {H enc w fuel cs x} h hw => by
    rcases open_slice ht h with ⟨rfl, rfl⟩ | ⟨a, len, cap, m, n, D, Pl, rfl, _, hl, hm, hmm, rfl, hel⟩
    · exact ⟨[], ⟨none, 0, rfl, Nat.le_refl _, Kd.C_nil _ _⟩, by simp, by simp⟩
    · have hml : len ≤ m := by rw [hmm]; simp; exact hl
      have hch : ∀ i, i < len → ∃ y : α, (∃ c, c.length = d.sz ∧ d.K w y c ∧ ∀ j u, c[j]? = some u → w.cell? (a.add (i * d.sz + j)) = some u) ∧ ok y := by
        intro i hi
        obtain ⟨cs', h1, h2⟩ := hel i (by omega)
        obtain ⟨_, hcl, hcell⟩ := World.cells?_some h1
        have hD : D i ∈ (List.range len).map D := List.mem_map.2 ⟨i, List.mem_range.2 hi, rfl⟩
        obtain ⟨y, hK, hok⟩ := he.read h2 (fun k hk => hw k (by
          unfold DataW.weights
          rw [ht]
          exact List.mem_cons_of_mem _ (List.mem_append.2 (.inl (mem_all hD k hk)))))
        refine ⟨y, ⟨cs', by rw [hcl, he.sz], hK, fun j u hu => ?_⟩, hok⟩
        have hj : j < cs'.length := (List.getElem?_eq_some_iff.1 hu).1
        have := hcell j (by omega)
        rw [hu, Go.Deep.add_add, he.sz] at this
        exact this
      obtain ⟨f, hf⟩ := choose_lt hch
      have hlen : ((List.range len).map f).length = len := by simp
      refine ⟨(List.range len).map f, ⟨some a, cap, by rw [hlen], by rw [hlen]; exact hl, rfl, by rw [hlen]; unfold maxLen at hm; omega, fun _ => ⟨a, rfl, fun j p hj => ?_⟩⟩, ?_, ?_⟩
      · rw [List.getElem?_map] at hj
        obtain ⟨i, hi, rfl⟩ := Option.map_eq_some_iff.1 hj
        have h1 := List.getElem?_eq_some_iff.1 hi
        simp only [List.getElem_range, List.length_range] at h1
        obtain ⟨h2, rfl⟩ := h1
        exact (hf j h2).1
      · rw [hlen]
        have := hw ((len + (m - len)) * P.bytesOf e) (by
          unfold DataW.weights
          rw [ht]
          simp)
        have h3 : len * P.bytesOf e ≤ (len + (m - len)) * P.bytesOf e := Nat.mul_le_mul_right _ (by omega)
        unfold reachBytes at this
        omega
      · intro y hy
        obtain ⟨i, hi, rfl⟩ := List.mem_map.1 hy
        exact (hf i (List.mem_range.1 hi)).2⟩

/-- The fields of a struct, from an offset on. -/
structure RdF (P : Program) (fs : List Field) (off : Nat) {α : Type} (d : Kd α) (ok : α → Prop) : Prop where
  read : ∀ {H : Type} {enc : TypeId × Value → H} {w : World} {fuel : Nat} {cs : List Value} {xs : List (DataW H × List MemPlace)}, (fs.mapM fun f => DataW.trod enc P w 0 (fun _ => true) true fuel f.type ((cs.drop f.offset).take (P.cellsOf f.type))) = some xs →
    (∀ n ∈ DataW.weightsEach P (fs.map (·.type)) (xs.map (·.1)), n ≤ reachBytes) → ∃ a, d.K w a ((cs.drop off).take d.sz) ∧ ok a
theorem rdf_one {P : Program} {f : Field} {off : Nat} {α : Type} {d : Kd α} {ok : α → Prop} (ho : f.offset = off) (hf : Rd P f.type d ok) : RdF P [f] off d ok := by
  constructor
  intro H enc w fuel cs xs h hw
  subst ho
  simp only [List.mapM_cons, List.mapM_nil] at h
  obtain ⟨x, hx, h⟩ := Option.bind_eq_some_iff.1 h
  simp at h
  subst h
  obtain ⟨a, hK, hok⟩ := hf.read hx (fun n hn => hw n (by simp [DataW.weightsEach]; exact hn))
  rw [hf.sz] at hK
  exact ⟨a, hK, hok⟩
theorem rdf_cons {P : Program} {f : Field} {fs : List Field} {off : Nat} {α β : Type} {d : Kd α} {d' : Kd β} {ok : α → Prop} {ok' : β → Prop} (ho : f.offset = off) (hf : Rd P f.type d ok) (hfs : RdF P fs (off + d.sz) d' ok') : RdF P (f :: fs) off (Kd.pair d d') (fun x => ok x.1 ∧ ok' x.2) := by
  constructor
  intro H enc w fuel cs xs h hw
  subst ho
  simp only [List.mapM_cons] at h
  obtain ⟨x, hx, h⟩ := Option.bind_eq_some_iff.1 h
  obtain ⟨ys, hys, h⟩ := Option.bind_eq_some_iff.1 h
  simp at h
  subst h
  obtain ⟨a, hK, hok⟩ := hf.read hx (fun n hn => hw n (by simp [DataW.weightsEach]; exact .inl hn))
  obtain ⟨b, hK', hok'⟩ := hfs.read hys (fun n hn => hw n (by simp only [List.map_cons, DataW.weightsEach]; exact List.mem_append.2 (.inr hn)))
  rw [hf.sz] at hK
  refine ⟨(a, b), ⟨_, _, ?_, hK, hK'⟩, hok, hok'⟩
  show List.take (d.sz + d'.sz) _ = _
  rw [List.take_add, List.drop_drop]
theorem rd_struct {P : Program} {t : TypeId} {fs : Array Field} {α β : Type} {d : Kd α} {ok : α → Prop} {f : β → α} (g : α → β) (hfg : ∀ y, f (g y) = y) (ht : P.underlying t = some (.struct fs)) (hs : P.cellsOf t = d.sz) (h : RdF P fs.toList 0 d ok) : Rd P t (Kd.iso d f) (fun x => ok (f x)) :=
  ⟨hs, fun {H enc w fuel cs x} hx hw => by
    cases fuel with
    | zero => simp [DataW.trod] at hx
    | succ n =>
      unfold DataW.trod at hx
      rw [ht] at hx
      simp only at hx
      split at hx
      · rename_i hl
        obtain ⟨xs, hxs, he⟩ := Option.map_eq_some_iff.1 hx
        subst he
        obtain ⟨a, hK, hok⟩ := h.read hxs (fun k hk => hw k (by unfold DataW.weights; rw [ht]; exact hk))
        refine ⟨g a, ?_, by rw [hfg]; exact hok⟩
        show d.K w (f (g a)) cs
        rw [hfg]
        rwa [List.drop_zero, List.take_of_length_le (by omega)] at hK
      · cases hx⟩
end Go.Proofs.Ytgemcomcjojjbaa.Open
