/- What a proof of this seat needs, laid together by a program of the session's. No conditions. -/
import Derived.Test.YteonppgdmhakoaaDoorC4
import Derived.Test.YteonppgdmhakoaaDoorC1
import Derived.Test.YteonppgdmhakoaaDoorC3
import Derived.Test.YteonppgdmhakoaaDoorC2
namespace Go.Proofs.YteonppgdmhakoaaDoor.PC
open Go.RowKit Go.Proofs.YteonppgdmhakoaaDoorW.PrintWords Go.Proofs.YteonppgdmhakoaaDoorW.PrintLast Go.Proofs.YteonppgdmhakoaaDoorW.PrintMore
set_option linter.unusedVariables false
set_option linter.unusedSimpArgs false
theorem kH_at {w : World} {base : Nat} {ok : Nat → Prop} {b N c : Nat} {hs : List HV} (h : kH.R 46 w base ok (.slice (some ⟨b, 0, none⟩) N c) hs) (i : Nat) (hi : i < N) :
  w.cell? ⟨b, i * 4, none⟩ = some (.int .i64 (hs.getD i hv0).P) ∧ w.cell? ⟨b, i * 4 + 1, none⟩ = some (.int .i64 (hs.getD i hv0).R) ∧ w.cell? ⟨b, i * 4 + 2, none⟩ = some (.int .i64 (hs.getD i hv0).V) ∧ w.cell? ⟨b, i * 4 + 3, none⟩ = some (hs.getD i hv0).c ∧ w.frozen? ⟨b, i * 4 + 3, none⟩ = false := by
 obtain ⟨cs, _, hM, hc, hf⟩ := Kd.R_elem h hv0 (i : Int) (Int.natCast_nonneg i) (by omega)
 have hM' : cs = (hs.getD i hv0).enc := hM
 subst hM'
 exact ⟨hc 0 _ rfl, hc 1 _ rfl, hc 2 _ rfl, hc 3 _ rfl, hf 3⟩
theorem kH_set {w : World} {base : Nat} {ok : Nat → Prop} {b N c : Nat} {hs : List HV} (h : kH.R 46 w base ok (.slice (some ⟨b, 0, none⟩) N c) hs) (i : Nat) (hi : i < N) (v : Value) (h1 : v.oneCell' = true) :
  kH.R 46 (w.setCell ⟨b, i * 4 + 3, none⟩ v) base ok (.slice (some ⟨b, 0, none⟩) N c) (hs.set i ⟨(hs.getD i hv0).P, (hs.getD i hv0).R, (hs.getD i hv0).V, v, h1⟩) := by
 obtain ⟨cs, hcl, hM, hc, hf⟩ := Kd.R_elem h hv0 (i : Int) (Int.natCast_nonneg i) (by omega)
 have hM' : cs = (hs.getD i hv0).enc := hM
 subst hM'
 exact (Kd.R_seg (okp := fun _ => False) h (i : Int) (Int.natCast_nonneg i) (by omega) (c := (hs.getD i hv0).enc) (seg := [v]) (j := 3) rfl hc (show 3 + 1 ≤ 4 by decide) (x' := ⟨(hs.getD i hv0).P, (hs.getD i hv0).R, (hs.getD i hv0).V, v, h1⟩) rfl (fun _ hk => hk.elim)).1
theorem fsOf_len (hs : List HV) : (fsOf hs).length = hs.length := by unfold fsOf; rw [List.length_map]
theorem fsOf_at (hs : List HV) (i : Nat) (h : i < (fsOf hs).length) : (fsOf hs)[i] = ⟨(hs.getD i hv0).P, (hs.getD i hv0).R, (hs.getD i hv0).V, []⟩ := by
 have hi : i < hs.length := by rw [← fsOf_len]; exact h
 refine (List.getElem_map (f := fun h : HV => (⟨h.P, h.R, h.V, []⟩ : S46)) (h := h)).trans ?_
 rw [List.getD_eq_getElem?_getD, List.getElem?_eq_getElem hi]
 rfl
theorem kH_heads {w : World} {base : Nat} {ok : Nat → Prop} {b N c : Nat} {hs : List HV} (h : kH.R 46 w base ok (.slice (some ⟨b, 0, none⟩) N c) hs) : HeadsC w (some ⟨b, 0, none⟩) (fsOf hs) := fun i hi => by
 have hn := (Kd.R_reads' h).1
 have hi' : i < N := by rw [hn, ← fsOf_len]; exact hi
 obtain ⟨c0, c1, _⟩ := kH_at h i hi'
 have e : (⟨b, 0, none⟩ : Addr).add (i * 4) = ⟨b, i * 4, none⟩ := by rw [Addr.add_lit, Nat.zero_add]
 rw [fsOf_at hs i hi]
 exact ⟨⟨b, 0, none⟩, rfl, by rw [e]; exact c0, by rw [e]; exact c1⟩
theorem set_getD (hs : List HV) (i j : Nat) (x : HV) (h : j ≠ i) : (hs.set i x).getD j hv0 = hs.getD j hv0 := by
 rw [List.getD_eq_getElem?_getD, List.getD_eq_getElem?_getD, List.getElem?_set_ne (fun e => h e.symm)]
theorem set_getD_self (hs : List HV) (i : Nat) (x : HV) (h : i < hs.length) : (hs.set i x).getD i hv0 = x := by
 rw [List.getD_eq_getElem?_getD, List.getElem?_set_self h]
 rfl
theorem fsOf_set (hs : List HV) (i : Nat) (v : Value) (h1 : v.oneCell' = true) : fsOf (hs.set i ⟨(hs.getD i hv0).P, (hs.getD i hv0).R, (hs.getD i hv0).V, v, h1⟩) = fsOf hs := by
 unfold fsOf
 apply List.ext_getElem?
 intro j
 rw [List.getElem?_map, List.getElem?_map]
 by_cases e : j = i
 ·subst e
  rcases Nat.lt_or_ge j hs.length with g | g
  ·rw [List.getElem?_set_self g, List.getElem?_eq_getElem g, List.getD_eq_getElem?_getD, List.getElem?_eq_getElem g]
   rfl
  ·rw [List.getElem?_eq_none (by rw [List.length_set]; exact g), List.getElem?_eq_none g]
 ·rw [List.getElem?_set_ne (fun h => e h.symm)]
def CodeQ (w : World) (base : Nat) (hs : List HV) (cs : List (List S50)) (q : Nat) (v : Value) : Prop := ∀ i, i < q → k50.R 50 w base (fun k => base ≤ k ∧ some k ≠ v.ownBlock) (hs.getD i hv0).c (cs.getD i [])
section
variable {w w' : World} {base q : Nat} {hs : List HV} {cs : List (List S50)} {v v1 : Value}
theorem CodeQ.keep {g : Nat} (h : CodeQ w base hs cs q v) (hk : KeepBut w w' g none) (hg : g < base) : CodeQ w' base hs cs q v := fun i hi => Kd.R_keep (h i hi) hk (fun k hk => by have := hk.1; omega)
theorem CodeQ.below (h : CodeQ w base hs cs q v) (hb : Below w.heap.size w w') : CodeQ w' base hs cs q v := fun i hi => Kd.R_below (h i hi) hb
theorem CodeQ.after (h : CodeQ w base hs cs q v) (hg : w.grownBy w' v.ownBlock) (hat : v1.ownBlock = v.ownBlock ∨ ∃ b, v1.ownBlock = some b ∧ w.heap.size ≤ b) : CodeQ w' base hs cs q v1 := fun i hi => Kd.R_after (h i hi) hg hat
theorem CodeQ.set {b j : Nat} {ds : Array Value} {u : Value} (h : CodeQ w base hs cs q v) (hb : w.heap[b]? = some (.cells ds 46 (0, 0))) (ht : ∀ q, q ∈ 50 :: k50.E → q ≠ 46) : CodeQ (w.setCell ⟨b, j, none⟩ u) base hs cs q v := fun i hi => Kd.R_set (h i hi) hb ht j u
theorem CodeQ.put {x : HV} (h : CodeQ w base hs cs q v) (j : Nat) (hj : q ≤ j) : CodeQ w base (hs.set j x) cs q v := fun i hi => by
 rw [set_getD hs j i x (by omega)]
 exact h i hi
theorem CodeQ.next {xs : List S50} (h : CodeQ w base hs cs q v) (hv : k50.R 50 w base (fun k => base ≤ k) v xs) (hq : (hs.getD q hv0).c = v) (hl : cs.length = q) : CodeQ w base hs (cs ++ [xs]) (q + 1) (.slice none 0 0) := fun i hi => by
 rcases Nat.lt_or_ge i q with g | g
 ·rw [show (cs ++ [xs]).getD i [] = cs.getD i [] from by rw [List.getD_eq_getElem?_getD, List.getD_eq_getElem?_getD, List.getElem?_append_left (by omega)]]
  exact Kd.R_mono (h i g) (fun k hk => ⟨hk.1, by simp [Value.ownBlock]⟩)
 ·obtain rfl : i = q := by omega
  rw [hq, show (cs ++ [xs]).getD i [] = xs from by rw [List.getD_eq_getElem?_getD, ← hl, List.getElem?_concat_length]; rfl]
  exact Kd.R_mono hv (fun k hk => ⟨hk, by simp [Value.ownBlock]⟩)
end
theorem to_prog {w : World} {base b N c : Nat} {hs : List HV} {cs : List (List S50)} (h : kH.R 46 w base (fun k => base ≤ k) (.slice (some ⟨b, 0, none⟩) N c) hs) (hc : CodeQ w base hs cs N (.slice none 0 0)) (hl : cs.length = N) : k46.R 46 w base (fun k => base ≤ k) (.slice (some ⟨b, 0, none⟩) N c) (withCode hs cs) := by
 have hn := (Kd.R_reads' h).1
 have hwl : (withCode hs cs).length = hs.length := by unfold withCode; rw [List.length_zipWith]; omega
 obtain ⟨h0, inner, ho, hr⟩ := h
 obtain ⟨cells, hcl⟩ := own_typed ho b (by simp [Value.ownBlock])
 refine ⟨h0, inner, by rw [hwl]; exact ho, by rw [hwl]; exact hr.1, fun j p hj => ?_⟩
 have hjl : j < hs.length := by
  rcases Nat.lt_or_ge j hs.length with g | g
  ·exact g
  ·rw [List.getElem?_eq_none (by rw [hwl]; exact g)] at hj
   cases hj
 have h2 := hr.2 j _ (List.getElem?_eq_getElem hjl)
 have h3 : (inner.drop (j * 4)).take 4 = hs[j].enc := h2
 have hp : p = ⟨hs[j].P, hs[j].R, hs[j].V, cs.getD j []⟩ := by
  unfold withCode at hj
  rw [List.getElem?_zipWith, List.getElem?_eq_getElem hjl, List.getElem?_eq_getElem (show j < cs.length by omega)] at hj
  injection hj with hj
  rw [← hj, List.getD_eq_getElem?_getD, List.getElem?_eq_getElem (show j < cs.length by omega)]
  rfl
 show k46.M w base _ p ((inner.drop (j * 4)).take 4)
 rw [h3, hp]
 have hrow := hc j (by omega)
 rw [List.getD_eq_getElem?_getD (l := hs), List.getElem?_eq_getElem hjl] at hrow
 exact k46_mkM w base _ ⟨hs[j].P, hs[j].R, hs[j].V, cs.getD j []⟩ (Kd.R_mono (Kd.R_types hrow hcl (by decide)) (fun k hk => ⟨hk.1.1, fun e => hk.2 (by simpa [Value.ownBlock] using e)⟩))
theorem sz_cell {w : World} {base bS N cS : Nat} {ok : Nat → Prop} {bs : List Int} (h : kI.R 3 w base ok (.slice (some ⟨bS, 0, none⟩) N cS) (szOf bs N)) (q : Nat) (hq : q < N) : w.cell? ⟨bS, q, none⟩ = some (.int .i64 (hvN bs (9 + 5 * q))) := by
 have h1 := (Kd.R_celln 0 h (q : Int) (Int.natCast_nonneg q) (by omega)).1
 rw [Int.toNat_natCast] at h1
 rw [h1]
 show some (Value.int .i64 ((szOf bs N).getD (q : Int).toNat 0)) = _
 rw [Int.toNat_natCast]
 unfold szOf
 rw [List.getD_eq_getElem?_getD, List.getElem?_map, List.getElem?_range hq]
 rfl
theorem hs_at (bs : List Int) (N q : Nat) (hq : q < N) : (hsOf bs N).getD q hv0 = hvOf bs (9 + 5 * q) := by
 unfold hsOf
 rw [List.getD_eq_getElem?_getD, List.getElem?_map, List.getElem?_range hq]
 rfl
theorem fs_heads {hs hs' : List HV} (h : fsOf hs = fsOf hs') (i : Nat) (hi : i < hs.length) (hi' : i < hs'.length) : (hs.getD i hv0).P = (hs'.getD i hv0).P ∧ (hs.getD i hv0).R = (hs'.getD i hv0).R ∧ (hs.getD i hv0).V = (hs'.getD i hv0).V := by
 have h1 := fsOf_at hs i (by rw [fsOf_len]; exact hi)
 have h2 := fsOf_at hs' i (by rw [fsOf_len]; exact hi')
 have e : (fsOf hs)[i]'(by rw [fsOf_len]; exact hi) = (fsOf hs')[i]'(by rw [fsOf_len]; exact hi') := by simp only [h]
 rw [h1, h2] at e
 injection e with a b c d
 exact ⟨a, b, c⟩
theorem instrR_ok {G : Int} {fs : List S46} {R V m : Int} {bs : List Int} {last : Bool} {nx : Nat} {locs : Int} {t : S50 × Nat × Int} (hby : ∀ x ∈ bs, 0 ≤ x ∧ x ≤ 255) (hl : 0 ≤ locs ∧ locs < 1048576) (h : instrR G fs R V m bs last nx locs = .ok t) : t.2.1 ≤ bs.length ∧ 0 ≤ t.2.2 ∧ t.2.2 < 1048576 := by
 unfold instrR at h
 split at h
 ·rename_i hle
  split at h
  ·rename_i ho
   obtain ⟨_, _, o3, o4⟩ := opE_ok hl ho
   cases e : partsR G fs R V m bs (bs.getD nx 0).toNat (x0Of (bs.getD nx 0)) (nx + 1) (partsOf (bs.getD nx 0).toNat).length with
   | error er => rw [e] at h; cases h
   | ok s =>
    rw [e] at h
    injection h with h
    subst h
    exact ⟨(partsR_inv hby rfl rfl hle _ s e).2.2.1, o3, o4⟩
  ·cases h
 ·cases h
theorem withCode_eq {hs hs' : List HV} (cs : List (List S50)) (h : fsOf hs = fsOf hs') : withCode hs cs = withCode hs' cs := by
 have hl : hs.length = hs'.length := by rw [← fsOf_len, ← fsOf_len, h]
 unfold withCode
 apply List.ext_getElem?
 intro j
 rw [List.getElem?_zipWith, List.getElem?_zipWith]
 rcases Nat.lt_or_ge j hs.length with g | g
 ·have g' : j < hs'.length := by omega
  have e := fs_heads h j g g'
  rw [List.getD_eq_getElem?_getD, List.getElem?_eq_getElem g, List.getD_eq_getElem?_getD, List.getElem?_eq_getElem g'] at e
  simp only [Option.getD_some] at e
  rw [List.getElem?_eq_getElem g, List.getElem?_eq_getElem g']
  cases cs[j]? with
  | none => rfl
  | some c => simp only [e.1, e.2.1, e.2.2]
 ·rw [List.getElem?_eq_none g, List.getElem?_eq_none (l := hs') (by omega)]
def DefQ (Q : Exit → Act → World → Prop) : Exit → Act → World → Prop
 | .normal, a, w => Q .normal a w
 | .panic ch, a, w => ∀ a' : Act, a'.defers = a.defers → (∀ i, i < 5 → a'.tmps[i]?.getD undef = a.tmps[i]?.getD undef) → Q (.panic ch) a' w
 | _, _, _ => False
theorem wp_defq {P : Program} {c : Code} {Q : Exit → Act → World → Prop} {a : Act} {w : World} (h : c.wp P (DefQ Q) a w) : c.wp P Q a w :=
 Code.wp_mono (fun e a w hq => by
  cases e
  case normal => exact hq
  case panic ch => exact hq a rfl (fun _ _ => rfl)
  all_goals exact hq.elim) h
theorem DefQ.put {Q : Exit → Act → World → Prop} {ch} {a : Act} {n : Nat} {v : Value} {w : World} (h : DefQ Q (.panic ch) (a.put (some (n + 5)) v) w) : DefQ Q (.panic ch) a w := fun a' hd ht =>
 h a' hd (fun i hi => by
  rw [ht i hi]
  show a.tmps[i]?.getD undef = (a.tmps.setIfInBounds (n + 5) v)[i]?.getD undef
  rw [Array.getElem?_setIfInBounds_ne (by omega)])
end Go.Proofs.YteonppgdmhakoaaDoor.PC
namespace Go.Proofs.YteonppgdmhakoaaDoor.PC
open Go.RowKit Go.Proofs.YteonppgdmhakoaaDoorW.PrintWords Go.Proofs.YteonppgdmhakoaaDoorW.PrintLast Go.Proofs.YteonppgdmhakoaaDoorW.PrintMore
attribute [local go_sem] max2_int min2_int max_two min_two
set_option linter.unusedVariables false
set_option linter.unusedSimpArgs false
def TAB_24.T23 : Bool × List (List Nat × List Nat) := (true, [([], []), ([], []), ([1], [1]), ([2], [2]), ([3], [3]), ([], []), ([], []), ([], []), ([], []), ([7, 8], [7, 8]), ([9], [9]), ([], []), ([], []), ([], []), ([12, 13], [12, 13]), ([14], [14]), ([15], [15]), ([11, 16], [11, 16]), ([5, 6, 10, 17], [5, 6, 10, 17]), ([18], [18]), ([4, 19, 18], [4, 19]), ([0, 0, 1, 2, 3, 4, 5, 6, 7, 8, 9, 10, 11, 12, 13, 14, 15, 16, 17, 18, 19, 20], [0]), ([21, 0, 1, 2, 3, 4, 5, 6, 7, 8, 9, 10, 11, 12, 13, 14, 15, 16, 17, 18, 19, 20], [21]), ([22, 20, 20, 0, 1, 2, 3, 4, 5, 6, 7, 8, 9, 10, 11, 12, 13, 14, 15, 16, 17, 18, 19, 20], [20, 22])])
def TAB_24.B23 : List Nat := [0, 0, 2, 6, 14, 0, 0, 0, 0, 384, 896, 0, 0, 0, 12288, 28672, 61440, 129024, 262112, 524256, 1048574, 2097151, 4194303, 8388607]
theorem TAB_24.tab23 : rtab .any (opsOf Tryd.f24 23) = TAB_24.T23 := by kernel_rfl
theorem TAB_24.bits23 : waitsOk TAB_24.T23.2 TAB_24.B23 = true := by kernel_rfl
theorem OpsAt.keep2 {w w' : World} {g : Nat} {ds : Array Value} {A : Option Addr} {n c B : Nat} (h : OpsAt w B) (hk : KeepBut w w' g none) (hB : B ≠ g) (hg : w.heap[g]? = some (.cells ds 80 (0, 0))) (h1 : w.cell? ⟨g, 1, none⟩ = some (.slice A n c)) : OpsAt w' B := fun op o1 o2 => by
 obtain ⟨b, hc, hr⟩ := h op o1 o2
 have hb : b ≠ g := by
  intro e
  subst e
  obtain ⟨pk, hpk⟩ := parts_first op o1 o2
  obtain ⟨c0, c1, c2, c3, hp, _, z1, _⟩ := hr 0 pk hpk
  obtain ⟨k1, a1, _, _, _, _, e1, _⟩ := fns_is hp
  rw [show (⟨b, 1, none⟩ : Addr) = ⟨b, 0 * 4 + 1, none⟩ from rfl, z1, e1] at h1
  cases h1
 refine ⟨b, KeepBut.cell hk hc hB, fun j k hj => ?_⟩
 obtain ⟨c0, c1, c2, c3, hp, z0, z1, z2, z3⟩ := hr j k hj
 exact ⟨c0, c1, c2, c3, hp.keep hk hg, KeepBut.cell hk z0 hb, KeepBut.cell hk z1 hb, KeepBut.cell hk z2 hb, KeepBut.cell hk z3 hb⟩
def DecPost (w : World) (bs : List Int) (e : Ending) (w' : World) : Prop := ∃ v, e = .returned (.tuple #[.agg #[.int .i64 (decOut bs).1, v], .int .i64 (decOut bs).2.2.1, .int .i64 (decOut bs).2.2.2]) ∧ k46.R 46 w' w.heap.size (fun k => w.heap.size ≤ k) v (decOut bs).2.1 ∧ Below w.heap.size w w'
set_option maxRecDepth 100000 in
set_option maxHeartbeats 16000000 in
theorem dec_any (A : Option Addr) (c : Nat) (bs : List Int) (w : World) (hB : kB.C w A bs.length bs) (hcb : bs.length ≤ c) (hby : ∀ x ∈ bs, 0 ≤ x ∧ x ≤ 255) (hT : Tab w) : Calls Tryd.prog 24 #[.slice A bs.length c] w fun e w' => DecPost w bs e w' := by
 have hmf : ∀ (fn : Fn) (first cap : Array Value) (w : World), (Instr.makeFunc fn first cap).run Tryd.prog w = .ok (.func fn first cap) w := fun _ _ _ _ => rfl
 have HB := Aside0.mk (Below.refl w.heap.size w)
 have HBs := Aside0.mk hB
 have HCb := Aside0.mk hcb
 have HBy := Aside0.mk hby
 have HT := Aside0.mk hT
 have hm : bs.length ≤ 9223372036854775807 := Kd.C_max hB
 obtain ⟨n, hn⟩ : ∃ n, n = bs.length := ⟨_, rfl⟩
 have Hn := Aside0.mk hn
 rw [← hn] at hm ⊢
 clear hB hcb hby hT hn
 go_enter_defers Tryd.func24, Tryd.ntmps24
 go_wp2_with (first | ((with_reducible refine gate_dst (N := 2) rfl ?_); refine box_event ?hg (N := 2) ?hd (cs := #[.int .i64 0, .slice none 0 0]) (t := 24) ?hr ?_; (case hd => rfl); (case hg => rfl); (case hr => first | (go_simp; done) | (go_simp; rfl)); intro g2 hg w2 hbox hb; have G2 : Aside0 (w.heap.size ≤ g2) := ⟨by have := HB.out.size; omega⟩; have HB_ := Aside0.mk (HB.out.trans (hb.mono HB.out.size)); clear HB; have HB := HB_; clear HB_; have BK2 := Aside0.mk hbox; clear hg hbox hb) | ((with_reducible refine gate_dst (N := 3) rfl ?_); refine box_event ?hg (N := 3) ?hd (cs := #[.int .i64 0]) (t := 27) ?hr ?_; (case hd => rfl); (case hg => rfl); (case hr => first | (go_simp; done) | (go_simp; rfl)); intro g3 hg w3 hbox hb; have G3 : Aside0 (w.heap.size ≤ g3) := ⟨by have := HB.out.size; omega⟩; have HB_ := Aside0.mk (HB.out.trans (hb.mono HB.out.size)); have BK2_ := Aside0.mk (blk_below BK2.out hb); clear HB BK2; have HB := HB_; have BK2 := BK2_; clear HB_ BK2_; have BK3 := Aside0.mk hbox; clear hg hbox hb) | ((with_reducible refine gate_dst (N := 4) rfl ?_); refine box_event ?hg (N := 4) ?hd (cs := #[.int .i64 0]) (t := 3) ?hr ?_; (case hd => rfl); (case hg => rfl); (case hr => first | (go_simp; done) | (go_simp; rfl)); intro g4 hg w4 hbox hb; have G4 : Aside0 (w.heap.size ≤ g4) := ⟨by have := HB.out.size; omega⟩; have HB_ := Aside0.mk (HB.out.trans (hb.mono HB.out.size)); have BK2_ := Aside0.mk (blk_below BK2.out hb); have BK3_ := Aside0.mk (blk_below BK3.out hb); clear HB BK2 BK3; have HB := HB_; have BK2 := BK2_; have BK3 := BK3_; clear HB_ BK2_ BK3_; have BK4 := Aside0.mk hbox; clear hg hbox hb) | ((with_reducible refine gate_dst (N := 15) rfl ?_); refine box_event ?hg (N := 15) ?hd (cs := #[.int .i64 0, .slice none 0 0, .slice none 0 0, .int .i64 0, .int .i64 0, .slice A n c, .int .i64 0]) (t := 80) ?hr ?_; (case hd => rfl); (case hg => rfl); (case hr => first | (go_simp; done) | (go_simp; rfl)); intro g15 hg w15 hbox hb; have G15 : Aside0 (w.heap.size ≤ g15) := ⟨by have := HB.out.size; omega⟩; have HB_ := Aside0.mk (HB.out.trans (hb.mono HB.out.size)); have BK2_ := Aside0.mk (blk_below BK2.out hb); have BK3_ := Aside0.mk (blk_below BK3.out hb); have BK4_ := Aside0.mk (blk_below BK4.out hb); clear HB BK2 BK3 BK4; have HB := HB_; have BK2 := BK2_; have BK3 := BK3_; have BK4 := BK4_; clear HB_ BK2_ BK3_ BK4_; have BK15 := Aside0.mk hbox; clear hg hbox hb))
 have N2 : Aside0 (g2 ≠ g15) := ⟨blk_ne_ty BK2.out BK15.out (by decide)⟩
 have N3 : Aside0 (g3 ≠ g15) := ⟨blk_ne_ty BK3.out BK15.out (by decide)⟩
 have N4 : Aside0 (g4 ≠ g15) := ⟨blk_ne_ty BK4.out BK15.out (by decide)⟩
 have NB : Aside0 (g15 < w15.heap.size) := ⟨blk_lt BK15.out⟩
 refine (ops_any w15).mono ?_
 rintro e wo ⟨B, rfl, hO, hGB, hb⟩
 have HBo := Aside0.mk (HB.out.trans (hb.mono HB.out.size))
 have B2 := Aside0.mk (blk_below BK2.out hb)
 have B3 := Aside0.mk (blk_below BK3.out hb)
 have B4 := Aside0.mk (blk_below BK4.out hb)
 have B15 := Aside0.mk (blk_below BK15.out hb)
 have HO := Aside0.mk hO
 have HBg : Aside0 (B ≠ g15) := ⟨by have := NB.out; omega⟩
 obtain ⟨g, rfl⟩ : ∃ g, g = g15 := ⟨_, rfl⟩
 have hc2 : wo.cell? ⟨g, 2, none⟩ = some (.slice none 0 0) := (blk_cell B15.out 2).trans rfl
 have hf2 := blk_frozen B15.out 2
 obtain ⟨k, hk⟩ : ∃ k : Nat, k = min n 6 := ⟨_, rfl⟩
 have hmin : (if (6 : Int) < (n : Int) then (6 : Int) else (n : Int)) = (k : Int) := by split <;> omega
 have HKm := Aside0.mk hk
 clear hk
 clear hO hGB hb HB BK2 BK3 BK4 BK15 NB
 go_wp2_with fail
 clear hc2 hf2
 have HAp : Aside0 (AskW (wo.setCell ⟨g, 2, none⟩ (.slice (some ⟨B, 0, none⟩) 18 18)) g 80 (rdR A bs.length c ((0 : Nat) : Int)) 0 none 0 0 B 0 0) := ⟨by rw [← Hn.out]; exact (blk_set B15.out 2 _).trans (by simp)⟩
 have HZp : Aside0 (Below w.heap.size w (wo.setCell ⟨g, 2, none⟩ (.slice (some ⟨B, 0, none⟩) 18 18))) := ⟨below_set HBo.out G15.out⟩
 have HK1 : KeepBut wo (wo.setCell ⟨g, 2, none⟩ (.slice (some ⟨B, 0, none⟩) 18 18)) g none := (KeepBut.refl wo g none).set_ 2 _
 have HOp := Aside0.mk (HO.out.keep2 HK1 HBg.out B15.out ((blk_cell B15.out 1).trans rfl))
 have P2 := Aside0.mk (HK1.blk B2.out N2.out (by simp))
 have P3 := Aside0.mk (HK1.blk B3.out N3.out (by simp))
 have P4 := Aside0.mk (HK1.blk B4.out N4.out (by simp))
 obtain ⟨wp, hwp⟩ : ∃ wp, wp = wo.setCell ⟨g, 2, none⟩ (.slice (some ⟨B, 0, none⟩) 18 18) := ⟨_, rfl⟩
 rw [← hwp] at HAp HZp HOp P2 P3 P4 ⊢
 have HGp : Aside0 (g < wp.heap.size) := ⟨blk_lt HAp.out⟩
 clear hwp HK1 HO HBo B2 B3 B4 B15 hmin
 have hkn : k ≤ n ∧ k ≤ 6 := by have := HKm.out; omega
 have hkc : k ≤ c := by have := HCb.out; have := Hn.out; omega
 have hkc' : (k : Int) ≤ (c : Int) := by omega
 have hk6 : k ≤ 6 := hkn.2
 have hcv2 : (convert 33 9 (.slice A k c)).run Tryd.prog wp.drew = .ok (.string (strOfNums (bs.take k))) wp.drew := conv_bytes (w := wp.drew) (Hn.out ▸ Kd.C_below HBs.out HZp.out.drew) k c hkn.1
 have hsz : ({ data := #[102, 117, 103, 117, 101, 1] } : ByteArray).size = 6 := rfl
 have hk6i : (k : Int) ≤ 6 := by omega
 refine wp_tail 10 (by kernel_rfl) (by kernel_rfl) ?_
 simp only [List.take_succ_cons, List.take_zero, List.drop_succ_cons, List.drop_zero]
 repeat still_step
 refine wpStill_nil ?_
 go_wp2_with fail
 rw [magic_eq bs HBy.out k (by rw [← Hn.out]; exact HKm.out)]
 clear hcv2 hsz hk6i hkn hkc hkc' hk6
 have HA5 : Aside0 (AskW wp.drew g 80 (rdR A bs.length c ((0 : Nat) : Int)) 0 none 0 0 B 0 0) := ⟨HAp.out⟩
 have HZ5 : Aside0 (Below w.heap.size w wp.drew) := ⟨HZp.out.drew⟩
 have HK5 : Aside0 (KeepBut wp wp.drew g none) := ⟨KeepBut.of_below (below_drew (Below.refl _ _)) g none⟩
 obtain ⟨w5, hw5⟩ : ∃ w5, w5 = wp.drew := ⟨_, rfl⟩
 rw [← hw5] at HA5 HZ5 HK5 ⊢
 clear hw5
 by_cases hmg : bs.take 6 = magicL.take bs.length
 rotate_left
 ·have h4 : w5.cell? ⟨g, 4, none⟩ = some (.int .i64 0) := HA5.out.c4
  rw [decide_eq_false hmg]
  refine (must_false g 10 0 w5 h4).mono ?_
  rintro e w' ⟨rfl, rfl⟩
  clear h4
  have HE : Aside0 (decR bs = .error (10, 0)) := ⟨by unfold decR; rw [if_neg hmg]⟩
  have Q2 := Aside0.mk (HK5.out.blk P2.out N2.out (by simp))
  have Q3 := Aside0.mk (HK5.out.blk P3.out N3.out (by simp))
  have Q4 := Aside0.mk (HK5.out.blk P4.out N4.out (by simp))
  have QZ := Aside0.mk (HZ5.out)
  go_wp2_with fail
  refine leaves_cons (f := 41) (args := #[.pointer (some ⟨g2, 0, none⟩), .pointer (some ⟨g3, 0, none⟩), .pointer (some ⟨g4, 0, none⟩)]) (by simp) (by simp [go_sem]) ?_
  refine (catchD_stop g2 g3 g4 0 0 (10) (0) (.slice none 0 0) w5 Q2.out Q3.out ⟨0, Q4.out⟩).mono ?_
  rintro e u' w'' ⟨rfl, rfl, hst⟩
  have r0 : w''.cell? ⟨g2, 0, none⟩ = some (.int .i64 0) := (blk_cell hst.1 0).trans rfl
  have r1 : w''.cell? ⟨g2, 1, none⟩ = some (.slice none 0 0) := (blk_cell hst.1 1).trans rfl
  have r2 : w''.cell? ⟨g3, 0, none⟩ = some (.int .i64 (10)) := (blk_cell hst.2.1 0).trans rfl
  have r3 : w''.cell? ⟨g4, 0, none⟩ = some (.int .i64 (0)) := (blk_cell hst.2.2.1 0).trans rfl
  have HPo : Aside0 (DecPost w bs (.returned (.tuple #[.agg #[.int .i64 0, .slice none 0 0], .int .i64 (10), .int .i64 (0)])) w'') := ⟨by unfold DecPost decOut; rw [HE.out]; exact ⟨.slice none 0 0, rfl, Kd.R_nil _ _ _ _ _, hst.2.2.2 w QZ.out G2.out G3.out G4.out⟩⟩
  clear hst Q2 Q3 Q4 QZ HE
  simp [Leaves, settle, results, Tryd.results24, go_sem, r0, r1, r2, r3]
  exact HPo.out
 have HMg := Aside0.mk hmg
 rw [decide_eq_true hmg]
 clear hmg
 refine (must_true _ _ _).mono ?_
 rintro e w' ⟨rfl, rfl⟩
 have HNm := Aside0.mk (number_rd g 6 (by omega) (0) none 0 0 B (0) (0) A c bs 0 w w5 HZ5.out G15.out HA5.out HBs.out (by have := HMg.out; omega) HBy.out)
 go_wp2_with fail
 refine HNm.out.mono ?_
 rintro e w' ⟨rfl, hA, hZ, hK⟩
 have HZ6 := Aside0.mk hZ
 have HK6 : Aside0 (KeepBut wp w' g none) := ⟨KeepBut.trans HK5.out hK (.inl rfl)⟩
 clear hZ hK HNm HA5 HZ5 HK5
 obtain ⟨w6, rfl⟩ : ∃ w6, w6 = w' := ⟨_, rfl⟩
 by_cases hle : 0 + 6 ≤ bs.length
 rotate_left
 ·rw [if_neg hle]
  have HE : Aside0 (decR bs = .error (11, bs.length)) := ⟨by unfold decR; rw [if_pos HMg.out, if_neg (by omega)]⟩
  have Q2 := Aside0.mk (HK6.out.blk P2.out N2.out (by simp))
  have Q3 := Aside0.mk (HK6.out.blk P3.out N3.out (by simp))
  have Q4 := Aside0.mk (HK6.out.blk P4.out N4.out (by simp))
  have QZ := Aside0.mk (HZ6.out)
  go_wp2_with fail
  refine leaves_cons (f := 41) (args := #[.pointer (some ⟨g2, 0, none⟩), .pointer (some ⟨g3, 0, none⟩), .pointer (some ⟨g4, 0, none⟩)]) (by simp) (by simp [go_sem]) ?_
  refine (catchD_stop g2 g3 g4 0 0 (11) (bs.length) (.slice none 0 0) w6 Q2.out Q3.out ⟨0, Q4.out⟩).mono ?_
  rintro e u' w'' ⟨rfl, rfl, hst⟩
  have r0 : w''.cell? ⟨g2, 0, none⟩ = some (.int .i64 0) := (blk_cell hst.1 0).trans rfl
  have r1 : w''.cell? ⟨g2, 1, none⟩ = some (.slice none 0 0) := (blk_cell hst.1 1).trans rfl
  have r2 : w''.cell? ⟨g3, 0, none⟩ = some (.int .i64 (11)) := (blk_cell hst.2.1 0).trans rfl
  have r3 : w''.cell? ⟨g4, 0, none⟩ = some (.int .i64 (bs.length)) := (blk_cell hst.2.2.1 0).trans rfl
  have HPo : Aside0 (DecPost w bs (.returned (.tuple #[.agg #[.int .i64 0, .slice none 0 0], .int .i64 (11), .int .i64 (bs.length)])) w'') := ⟨by unfold DecPost decOut; rw [HE.out]; exact ⟨.slice none 0 0, rfl, Kd.R_nil _ _ _ _ _, hst.2.2.2 w QZ.out G2.out G3.out G4.out⟩⟩
  clear hst Q2 Q3 Q4 QZ HE
  simp [Leaves, settle, results, Tryd.results24, go_sem, r0, r1, r2, r3]
  exact HPo.out
 have HA6 := Aside0.mk (hA hle)
 have L6 := Aside0.mk hle
 rw [if_pos hle]
 clear hA hle
 have HNm := Aside0.mk (number_rd g 1 (by omega) (0) none 0 0 B (0) (0) A c bs 6 w w6 HZ6.out G15.out HA6.out HBs.out (by have := L6.out; omega) HBy.out)
 go_wp2_with fail
 refine HNm.out.mono ?_
 rintro e w' ⟨rfl, hA, hZ, hK⟩
 have HZ7 := Aside0.mk hZ
 have HK7 : Aside0 (KeepBut wp w' g none) := ⟨KeepBut.trans HK6.out hK (.inl rfl)⟩
 clear hZ hK HNm HA6 HZ6 HK6
 obtain ⟨w7, rfl⟩ : ∃ w7, w7 = w' := ⟨_, rfl⟩
 by_cases hle : 6 + 1 ≤ bs.length
 rotate_left
 ·rw [if_neg hle]
  have HE : Aside0 (decR bs = .error (11, bs.length)) := ⟨by unfold decR; rw [if_pos HMg.out, if_pos (show 6 ≤ bs.length by have := L6.out; omega), if_neg (by omega)]⟩
  have Q2 := Aside0.mk (HK7.out.blk P2.out N2.out (by simp))
  have Q3 := Aside0.mk (HK7.out.blk P3.out N3.out (by simp))
  have Q4 := Aside0.mk (HK7.out.blk P4.out N4.out (by simp))
  have QZ := Aside0.mk (HZ7.out)
  go_wp2_with fail
  refine leaves_cons (f := 41) (args := #[.pointer (some ⟨g2, 0, none⟩), .pointer (some ⟨g3, 0, none⟩), .pointer (some ⟨g4, 0, none⟩)]) (by simp) (by simp [go_sem]) ?_
  refine (catchD_stop g2 g3 g4 0 0 (11) (bs.length) (.slice none 0 0) w7 Q2.out Q3.out ⟨0, Q4.out⟩).mono ?_
  rintro e u' w'' ⟨rfl, rfl, hst⟩
  have r0 : w''.cell? ⟨g2, 0, none⟩ = some (.int .i64 0) := (blk_cell hst.1 0).trans rfl
  have r1 : w''.cell? ⟨g2, 1, none⟩ = some (.slice none 0 0) := (blk_cell hst.1 1).trans rfl
  have r2 : w''.cell? ⟨g3, 0, none⟩ = some (.int .i64 (11)) := (blk_cell hst.2.1 0).trans rfl
  have r3 : w''.cell? ⟨g4, 0, none⟩ = some (.int .i64 (bs.length)) := (blk_cell hst.2.2.1 0).trans rfl
  have HPo : Aside0 (DecPost w bs (.returned (.tuple #[.agg #[.int .i64 0, .slice none 0 0], .int .i64 (11), .int .i64 (bs.length)])) w'') := ⟨by unfold DecPost decOut; rw [HE.out]; exact ⟨.slice none 0 0, rfl, Kd.R_nil _ _ _ _ _, hst.2.2.2 w QZ.out G2.out G3.out G4.out⟩⟩
  clear hst Q2 Q3 Q4 QZ HE
  simp [Leaves, settle, results, Tryd.results24, go_sem, r0, r1, r2, r3]
  exact HPo.out
 have HA7 := Aside0.mk (hA hle)
 have L7 := Aside0.mk hle
 rw [if_pos hle]
 clear hA hle
 rw [num_one bs 6 HBy.out]
 obtain ⟨G, hG⟩ : ∃ G, G = bs.getD 6 0 := ⟨_, rfl⟩
 have HGv := Aside0.mk hG
 rw [← hG]
 clear hG
 have hs0 : w7.cell? ⟨g, 0, none⟩ = some (.int .i64 0) := HA7.out.c0
 have hf0 := blk_frozen HA7.out 0
 go_wp2_with fail
 clear hs0 hf0
 have HA8 := Aside0.mk (AskW.set0 (G' := G) HA7.out)
 have HZ8 : Aside0 (Below w.heap.size w (w7.setCell ⟨g, 0, none⟩ (.int .i64 G))) := ⟨below_set HZ7.out G15.out⟩
 have HK8 : Aside0 (KeepBut wp (w7.setCell ⟨g, 0, none⟩ (.int .i64 G)) g none) := ⟨HK7.out.set_ 0 _⟩
 obtain ⟨w8, hw8⟩ : ∃ w8, w8 = w7.setCell ⟨g, 0, none⟩ (.int .i64 G) := ⟨_, rfl⟩
 rw [← hw8] at HA8 HZ8 HK8 ⊢
 clear hw8 HA7 HZ7 HK7
 have hs0 : w8.cell? ⟨g, 0, none⟩ = some (.int .i64 G) := HA8.out.c0
 have HC := Aside0.mk (globals_any g G 6 w8.drew HA8.out.c4)
 refine wp_tail 9 (by kernel_rfl) (by kernel_rfl) ?_
 simp only [List.take_succ_cons, List.take_zero, List.drop_succ_cons, List.drop_zero]
 repeat still_step
 refine wpStill_nil ?_
 go_wp2_with fail
 refine HC.out.mono ?_
 rintro e w' ⟨he, hb⟩
 have HA9 : Aside0 (AskW w' g 80 (rdR A bs.length c ((6 + 1 : Nat) : Int)) G none 0 0 B 0 6) := ⟨AskW.below (w := w8.drew) HA8.out hb⟩
 have HZ9 : Aside0 (Below w.heap.size w w') := ⟨HZ8.out.drew.trans (hb.mono HZ8.out.size)⟩
 have HK9 : Aside0 (KeepBut wp w' g none) := ⟨KeepBut.trans HK8.out (KeepBut.of_below (show Below w8.heap.size w8 w' from (below_drew (Below.refl _ _)).trans hb) g none) (.inl rfl)⟩
 clear hb HC HA8 HZ8 HK8 hs0
 obtain ⟨w9, rfl⟩ : ∃ w9, w9 = w' := ⟨_, rfl⟩
 by_cases h1 : globE G = 0
 rotate_left
 ·rw [if_neg h1] at he
  subst he
  have HE : Aside0 (decR bs = .error (globE G, 6)) := ⟨by unfold decR; rw [if_pos HMg.out, if_pos (show 6 ≤ bs.length by have := L6.out; omega), if_pos (show 7 ≤ bs.length by have := L7.out; omega), ← HGv.out, if_neg h1]⟩
  have Q2 := Aside0.mk (HK9.out.blk P2.out N2.out (by simp))
  have Q3 := Aside0.mk (HK9.out.blk P3.out N3.out (by simp))
  have Q4 := Aside0.mk (HK9.out.blk P4.out N4.out (by simp))
  have QZ := Aside0.mk (HZ9.out)
  go_wp2_with fail
  refine leaves_cons (f := 41) (args := #[.pointer (some ⟨g2, 0, none⟩), .pointer (some ⟨g3, 0, none⟩), .pointer (some ⟨g4, 0, none⟩)]) (by simp) (by simp [go_sem]) ?_
  refine (catchD_stop g2 g3 g4 0 0 (globE G) (6) (.slice none 0 0) w9 Q2.out Q3.out ⟨0, Q4.out⟩).mono ?_
  rintro e u' w'' ⟨rfl, rfl, hst⟩
  have r0 : w''.cell? ⟨g2, 0, none⟩ = some (.int .i64 0) := (blk_cell hst.1 0).trans rfl
  have r1 : w''.cell? ⟨g2, 1, none⟩ = some (.slice none 0 0) := (blk_cell hst.1 1).trans rfl
  have r2 : w''.cell? ⟨g3, 0, none⟩ = some (.int .i64 (globE G)) := (blk_cell hst.2.1 0).trans rfl
  have r3 : w''.cell? ⟨g4, 0, none⟩ = some (.int .i64 (6)) := (blk_cell hst.2.2.1 0).trans rfl
  have HPo : Aside0 (DecPost w bs (.returned (.tuple #[.agg #[.int .i64 0, .slice none 0 0], .int .i64 (globE G), .int .i64 (6)])) w'') := ⟨by unfold DecPost decOut; rw [HE.out]; exact ⟨.slice none 0 0, rfl, Kd.R_nil _ _ _ _ _, hst.2.2.2 w QZ.out G2.out G3.out G4.out⟩⟩
  clear hst Q2 Q3 Q4 QZ HE
  simp [Leaves, settle, results, Tryd.results24, go_sem, r0, r1, r2, r3]
  exact HPo.out
 rw [if_pos h1] at he
 subst he
 have H1 := Aside0.mk h1
 clear h1
 have HNm := Aside0.mk (number_rd g 2 (by omega) (G) none 0 0 B (0) (6) A c bs 7 w w9 HZ9.out G15.out HA9.out HBs.out (by have := L7.out; omega) HBy.out)
 go_wp2_with fail
 refine HNm.out.mono ?_
 rintro e w' ⟨rfl, hA, hZ, hK⟩
 have HZa := Aside0.mk hZ
 have HKa : Aside0 (KeepBut wp w' g none) := ⟨KeepBut.trans HK9.out hK (.inl rfl)⟩
 clear hZ hK HNm HA9 HZ9 HK9
 obtain ⟨wa, rfl⟩ : ∃ wa, wa = w' := ⟨_, rfl⟩
 by_cases hle : 7 + 2 ≤ bs.length
 rotate_left
 ·rw [if_neg hle]
  have HE : Aside0 (decR bs = .error (11, bs.length)) := ⟨by unfold decR; rw [if_pos HMg.out, if_pos (show 6 ≤ bs.length by have := L6.out; omega), if_pos (show 7 ≤ bs.length by have := L7.out; omega), ← HGv.out, if_pos H1.out, if_neg (by omega)]⟩
  have Q2 := Aside0.mk (HKa.out.blk P2.out N2.out (by simp))
  have Q3 := Aside0.mk (HKa.out.blk P3.out N3.out (by simp))
  have Q4 := Aside0.mk (HKa.out.blk P4.out N4.out (by simp))
  have QZ := Aside0.mk (HZa.out)
  go_wp2_with fail
  refine leaves_cons (f := 41) (args := #[.pointer (some ⟨g2, 0, none⟩), .pointer (some ⟨g3, 0, none⟩), .pointer (some ⟨g4, 0, none⟩)]) (by simp) (by simp [go_sem]) ?_
  refine (catchD_stop g2 g3 g4 0 0 (11) (bs.length) (.slice none 0 0) wa Q2.out Q3.out ⟨0, Q4.out⟩).mono ?_
  rintro e u' w'' ⟨rfl, rfl, hst⟩
  have r0 : w''.cell? ⟨g2, 0, none⟩ = some (.int .i64 0) := (blk_cell hst.1 0).trans rfl
  have r1 : w''.cell? ⟨g2, 1, none⟩ = some (.slice none 0 0) := (blk_cell hst.1 1).trans rfl
  have r2 : w''.cell? ⟨g3, 0, none⟩ = some (.int .i64 (11)) := (blk_cell hst.2.1 0).trans rfl
  have r3 : w''.cell? ⟨g4, 0, none⟩ = some (.int .i64 (bs.length)) := (blk_cell hst.2.2.1 0).trans rfl
  have HPo : Aside0 (DecPost w bs (.returned (.tuple #[.agg #[.int .i64 0, .slice none 0 0], .int .i64 (11), .int .i64 (bs.length)])) w'') := ⟨by unfold DecPost decOut; rw [HE.out]; exact ⟨.slice none 0 0, rfl, Kd.R_nil _ _ _ _ _, hst.2.2.2 w QZ.out G2.out G3.out G4.out⟩⟩
  clear hst Q2 Q3 Q4 QZ HE
  simp [Leaves, settle, results, Tryd.results24, go_sem, r0, r1, r2, r3]
  exact HPo.out
 have HAa := Aside0.mk (hA hle)
 have L9 := Aside0.mk hle
 rw [if_pos hle]
 clear hA hle
 rw [num_two bs 7 HBy.out]
 obtain ⟨cnt, hcnt⟩ : ∃ cnt, cnt = bs.getD 7 0 + bs.getD (7 + 1) 0 * 256 := ⟨_, rfl⟩
 have HCn : Aside0 (cntOf bs = cnt) := ⟨hcnt.symm⟩
 have hc0 := byte_at HBy.out 7
 have hc1 := byte_at HBy.out (7 + 1)
 have HCr : Aside0 (0 ≤ cnt ∧ cnt ≤ 65535) := ⟨by omega⟩
 rw [← hcnt]
 clear hcnt hc0 hc1
 have HC := Aside0.mk (funcs_any g cnt 7 wa HAa.out.c4)
 go_wp2_with fail
 refine HC.out.mono ?_
 rintro e w' ⟨he, hb⟩
 have HAb := Aside0.mk (HAa.out.below hb)
 have HZb := Aside0.mk (HZa.out.trans (hb.mono HZa.out.size))
 have HKb : Aside0 (KeepBut wp w' g none) := ⟨KeepBut.trans HKa.out (KeepBut.of_below hb g none) (.inl rfl)⟩
 clear hb HC HAa HZa HKa
 obtain ⟨wb, rfl⟩ : ∃ wb, wb = w' := ⟨_, rfl⟩
 by_cases h1 : funcsE cnt = 0
 rotate_left
 ·rw [if_neg h1] at he
  subst he
  have HE : Aside0 (decR bs = .error (funcsE cnt, 7)) := ⟨by unfold decR; rw [if_pos HMg.out, if_pos (show 6 ≤ bs.length by have := L6.out; omega), if_pos (show 7 ≤ bs.length by have := L7.out; omega), ← HGv.out, if_pos H1.out, if_pos (show 9 ≤ bs.length by have := L9.out; omega), HCn.out, if_neg h1]⟩
  have Q2 := Aside0.mk (HKb.out.blk P2.out N2.out (by simp))
  have Q3 := Aside0.mk (HKb.out.blk P3.out N3.out (by simp))
  have Q4 := Aside0.mk (HKb.out.blk P4.out N4.out (by simp))
  have QZ := Aside0.mk (HZb.out)
  go_wp2_with fail
  refine leaves_cons (f := 41) (args := #[.pointer (some ⟨g2, 0, none⟩), .pointer (some ⟨g3, 0, none⟩), .pointer (some ⟨g4, 0, none⟩)]) (by simp) (by simp [go_sem]) ?_
  refine (catchD_stop g2 g3 g4 0 0 (funcsE cnt) (7) (.slice none 0 0) wb Q2.out Q3.out ⟨0, Q4.out⟩).mono ?_
  rintro e u' w'' ⟨rfl, rfl, hst⟩
  have r0 : w''.cell? ⟨g2, 0, none⟩ = some (.int .i64 0) := (blk_cell hst.1 0).trans rfl
  have r1 : w''.cell? ⟨g2, 1, none⟩ = some (.slice none 0 0) := (blk_cell hst.1 1).trans rfl
  have r2 : w''.cell? ⟨g3, 0, none⟩ = some (.int .i64 (funcsE cnt)) := (blk_cell hst.2.1 0).trans rfl
  have r3 : w''.cell? ⟨g4, 0, none⟩ = some (.int .i64 (7)) := (blk_cell hst.2.2.1 0).trans rfl
  have HPo : Aside0 (DecPost w bs (.returned (.tuple #[.agg #[.int .i64 0, .slice none 0 0], .int .i64 (funcsE cnt), .int .i64 (7)])) w'') := ⟨by unfold DecPost decOut; rw [HE.out]; exact ⟨.slice none 0 0, rfl, Kd.R_nil _ _ _ _ _, hst.2.2.2 w QZ.out G2.out G3.out G4.out⟩⟩
  clear hst Q2 Q3 Q4 QZ HE
  simp [Leaves, settle, results, Tryd.results24, go_sem, r0, r1, r2, r3]
  exact HPo.out
 rw [if_pos h1] at he
 subst he
 have H2 := Aside0.mk h1
 clear h1
 obtain ⟨N, rfl⟩ : ∃ N : Nat, cnt = (N : Int) := ⟨cnt.toNat, by have := HCr.out; omega⟩
 have HNr : Aside0 (1 ≤ N ∧ N ≤ 65535) := ⟨by have := HCr.out; have h := H2.out; unfold funcsE at h; by_cases c : 1 ≤ (N : Int) ∧ (N : Int) ≤ 65535; exact (by omega); rw [if_neg c] at h; omega⟩
 go_wp2_with fail
 have HAb' : Aside0 (AskW wb g 80 (rdR A bs.length c ((9 + 5 * 0 : Nat) : Int)) G none 0 0 B 0 7) := ⟨HAb.out⟩
 clear HAb
 go_loopw [8, 62] (fun v8 v62 w' => ∃ (q : Nat) (l : Int) (AF : Option Addr) (cF : Nat) (a : Int), q ≤ N ∧ v62 = .int .i64 (q : Int) ∧ Aside0 (runE (headStep bs) 0 q = .ok l) ∧ Aside0 (AskW w' g 80 (rdR A bs.length c ((9 + 5 * q : Nat) : Int)) G AF q cF B l a) ∧ Aside0 (kH.R 46 w' wp.heap.size (fun k => wp.heap.size ≤ k) (.slice AF q cF) (hsOf bs q)) ∧ Aside0 (kI.R 3 w' wp.heap.size (fun k => wp.heap.size ≤ k) v8 (szOf bs q)) ∧ Aside0 (Below w.heap.size w w') ∧ Aside0 (KeepBut wp w' g none)) (fun _ i _ => N - (intOf i).toNat)
 case atStart => exact ⟨0, 0, none, 0, 7, Nat.zero_le _, rfl, ⟨rfl⟩, HAb', ⟨Kd.R_nil _ _ _ _ _⟩, ⟨Kd.R_nil _ _ _ _ _⟩, HZb, HKb⟩
 case round =>
  obtain ⟨q, l, AF, cF, a, hq, rfl, HRn, HAq, HFq, HSq, HZq, HKq⟩ := hrel
  clear HAb' HZb HKb
  by_cases hlt : q < N
  rotate_left
  ·obtain rfl : N = q := by omega
   obtain ⟨bF, cF', hvF, hbF, -, -⟩ := Kd.R_form HFq.out (by rw [hsOf_len]; exact HNr.out.1)
   injection hvF with hvF hlq hcF
   clear hlq
   subst hvF
   subst hcF
   obtain ⟨bS, cS, hvS, -⟩ := Kd.R_form HSq.out (by rw [szOf_len]; exact HNr.out.1)
   rw [szOf_len] at hvS
   subst hvS
   have HbF : Aside0 (bF ≠ g) := ⟨by have := HGp.out; omega⟩
   have HbFp := Aside0.mk hbF
   have HRh := HRn
   have HRn2 := Aside0.mk (heads_run HBy.out N l HRn.out)
   have hs1 : wr.cell? ⟨g, 1, none⟩ = some (.slice (some ⟨bF, 0, none⟩) N cF) := HAq.out.c1
   clear hlt hq hbF
   go_wp2_with fail
   clear hs1
   obtain ⟨fs, hfs⟩ : ∃ fs, fs = fsOf (hsOf bs N) := ⟨_, rfl⟩
   have HFs := Aside0.mk hfs
   have HFl : Aside0 (fs.length = N) := ⟨by rw [hfs, fsOf_len, hsOf_len]⟩
   clear hfs
   go_loopw [77] (fun v77 w' => ∃ (q : Nat) (s : Nat × Int × List (List S50)) (hs : List HV) (a : Int), q ≤ N ∧ v77 = .int .i64 (q : Int) ∧ Aside0 (runE (funcStep G fs bs) (9 + 5 * N, l, []) q = .ok s) ∧ Aside0 (AskW w' g 80 (rdR A bs.length c (s.1 : Int)) G (some ⟨bF, 0, none⟩) N cF B s.2.1 a) ∧ Aside0 (kH.R 46 w' wp.heap.size (fun k => wp.heap.size ≤ k) (.slice (some ⟨bF, 0, none⟩) N cF) hs) ∧ Aside0 (fsOf hs = fs) ∧ Aside0 (∀ i, q ≤ i → i < N → (hs.getD i hv0).c = .slice none 0 0) ∧ Aside0 (CodeQ w' wp.heap.size hs s.2.2 q (.slice none 0 0)) ∧ Aside0 (kI.R 3 w' wp.heap.size (fun k => wp.heap.size ≤ k) (.slice (some ⟨bS, 0, none⟩) N cS) (szOf bs N)) ∧ Aside0 (s.2.2.length = q ∧ s.1 ≤ bs.length ∧ 0 ≤ s.2.1 ∧ s.2.1 < 1048576) ∧ Aside0 (Below w.heap.size w w') ∧ Aside0 (KeepBut wp w' g none)) (fun i _ => N - (intOf i).toNat)
   case atStart => exact ⟨0, (9 + 5 * N, l, []), hsOf bs N, a, Nat.zero_le _, rfl, ⟨rfl⟩, HAq, HFq, ⟨HFs.out.symm⟩, ⟨fun i _ hi => by rw [hs_at bs N i hi]; rfl⟩, ⟨fun i hi => by omega⟩, HSq, ⟨rfl, HRn2.out.2.1 L9.out, HRn2.out.1.1, HRn2.out.1.2⟩, HZq, HKq⟩
   case round =>
    obtain ⟨q, s, hs, a, hq, rfl, HRf, HAf, HFf, HFe, HNil, HCq, HSf, HIn, HZf, HKf⟩ := hrel
    clear HAq HFq HSq HZq HKq
    by_cases hlt : q < N
    rotate_left
    ·obtain rfl : N = q := by omega
     obtain ⟨nx, hnx⟩ : ∃ nx, nx = s.1 := ⟨_, rfl⟩
     have HNx := Aside0.mk hnx
     rw [← hnx] at HAf
     clear hnx
     have hs6 : wr.cell? ⟨g, 6, none⟩ = some (.int .i64 (nx : Int)) := (blk_cell HAf.out 6).trans rfl
     have hs4 : wr.cell? ⟨g, 4, none⟩ = some (.int .i64 a) := HAf.out.c4
     have hf4 := blk_frozen HAf.out 4
     clear hlt hq
     go_wp2_with fail
     clear hs6 hs4 hf4
     have HA1 := Aside0.mk (HAf.out.set4 (nx : Int))
     have HZ1 : Aside0 (Below w.heap.size w (wr.setCell ⟨g, 4, none⟩ (.int .i64 (nx : Int)))) := ⟨below_set HZf.out G15.out⟩
     have HK1 : Aside0 (KeepBut wp (wr.setCell ⟨g, 4, none⟩ (.int .i64 (nx : Int))) g none) := ⟨HKf.out.set_ 4 _⟩
     have HKr : Aside0 (KeepBut wr (wr.setCell ⟨g, 4, none⟩ (.int .i64 (nx : Int))) g none) := ⟨(KeepBut.refl wr g none).set_ 4 _⟩
     have HF1 : Aside0 (kH.R 46 (wr.setCell ⟨g, 4, none⟩ (.int .i64 (nx : Int))) wp.heap.size (fun k => wp.heap.size ≤ k) (.slice (some ⟨bF, 0, none⟩) N cF) hs) := ⟨Kd.R_keep HFf.out HKr.out (fun k hk => by have := HGp.out; omega)⟩
     have HC1 : Aside0 (CodeQ (wr.setCell ⟨g, 4, none⟩ (.int .i64 (nx : Int))) wp.heap.size hs s.2.2 N (.slice none 0 0)) := ⟨HCq.out.keep HKr.out HGp.out⟩
     obtain ⟨w1, hw1⟩ : ∃ w1, w1 = wr.setCell ⟨g, 4, none⟩ (.int .i64 (nx : Int)) := ⟨_, rfl⟩
     rw [← hw1] at HA1 HZ1 HK1 HF1 HC1 ⊢
     clear hw1 HAf HZf HKf HFf HCq HKr HSf HNil
     have hs6 : w1.cell? ⟨g, 6, none⟩ = some (.int .i64 (nx : Int)) := (blk_cell HA1.out 6).trans rfl
     have h4 : w1.drew.cell? ⟨g, 4, none⟩ = some (.int .i64 (nx : Int)) := HA1.out.c4
     obtain ⟨eb, heb⟩ : ∃ eb, ((nx : Int) == (n : Int)) = eb := ⟨_, rfl⟩
     refine wp_tail 10 (by kernel_rfl) (by kernel_rfl) ?_
     simp only [List.take_succ_cons, List.take_zero, List.drop_succ_cons, List.drop_zero]
     repeat still_step
     refine wpStill_nil ?_
     go_wp2_with fail
     refine (must_any g eb 22 nx w1.drew h4).mono ?_
     rintro e w' ⟨he, rfl⟩
     have HEb := Aside0.mk heb
     have HA2 : Aside0 (AskW w1.drew g 80 (rdR A bs.length c (nx : Int)) G (some ⟨bF, 0, none⟩) N cF B s.2.1 nx) := ⟨HA1.out⟩
     have HZ2 : Aside0 (Below w.heap.size w w1.drew) := ⟨HZ1.out.drew⟩
     have HK2 : Aside0 (KeepBut wp w1.drew g none) := ⟨HK1.out⟩
     have HF2 : Aside0 (kH.R 46 w1.drew wp.heap.size (fun k => wp.heap.size ≤ k) (.slice (some ⟨bF, 0, none⟩) N cF) hs) := ⟨Kd.R_drew HF1.out⟩
     have HC2 : Aside0 (CodeQ w1.drew wp.heap.size hs s.2.2 N (.slice none 0 0)) := ⟨HC1.out.below (below_drew (Below.refl _ _))⟩
     clear heb hs6 h4 HA1 HZ1 HK1 HF1 HC1
     obtain ⟨we, hw2⟩ : ∃ we, we = w1.drew := ⟨_, rfl⟩
     rw [← hw2] at HA2 HZ2 HK2 HF2 HC2 ⊢
     clear hw2
     have HD : Aside0 (decR bs = if s.1 = bs.length then .ok (G, withCode (hsOf bs N) s.2.2) else .error (22, s.1)) := ⟨by unfold decR; rw [if_pos HMg.out, if_pos (show 6 ≤ bs.length by have := L6.out; omega), if_pos (show 7 ≤ bs.length by have := L7.out; omega), ← HGv.out, if_pos H1.out, if_pos (show 9 ≤ bs.length by have := L9.out; omega), HCn.out, if_pos H2.out, Int.toNat_natCast, HRh.out]; dsimp only; rw [← HFs.out, HRf.out]⟩
     cases eb with
     | false =>
      replace he : e = .panicked [{ v := stopV 22 nx, recovered := false }] := he
      subst he
      have HE : Aside0 (decR bs = .error (22, (nx : Int))) := ⟨by rw [HD.out, if_neg (by rw [← HNx.out, ← Hn.out]; have := HEb.out; rw [beq_eq_false_iff_ne] at this; omega), HNx.out]⟩
      have Q2 := Aside0.mk (HK2.out.blk P2.out N2.out (by simp))
      have Q3 := Aside0.mk (HK2.out.blk P3.out N3.out (by simp))
      have Q4 := Aside0.mk (HK2.out.blk P4.out N4.out (by simp))
      have QZ := Aside0.mk (HZ2.out)
      go_wp2_with fail
      refine leaves_cons (f := 41) (args := #[.pointer (some ⟨g2, 0, none⟩), .pointer (some ⟨g3, 0, none⟩), .pointer (some ⟨g4, 0, none⟩)]) (by simp) (by simp [go_sem]) ?_
      refine (catchD_stop g2 g3 g4 0 0 (22) ((nx : Int)) (.slice none 0 0) we Q2.out Q3.out ⟨0, Q4.out⟩).mono ?_
      rintro e u' w'' ⟨rfl, rfl, hst⟩
      have r0 : w''.cell? ⟨g2, 0, none⟩ = some (.int .i64 0) := (blk_cell hst.1 0).trans rfl
      have r1 : w''.cell? ⟨g2, 1, none⟩ = some (.slice none 0 0) := (blk_cell hst.1 1).trans rfl
      have r2 : w''.cell? ⟨g3, 0, none⟩ = some (.int .i64 (22)) := (blk_cell hst.2.1 0).trans rfl
      have r3 : w''.cell? ⟨g4, 0, none⟩ = some (.int .i64 ((nx : Int))) := (blk_cell hst.2.2.1 0).trans rfl
      have HPo : Aside0 (DecPost w bs (.returned (.tuple #[.agg #[.int .i64 0, .slice none 0 0], .int .i64 (22), .int .i64 ((nx : Int))])) w'') := ⟨by unfold DecPost decOut; rw [HE.out]; exact ⟨.slice none 0 0, rfl, Kd.R_nil _ _ _ _ _, hst.2.2.2 w QZ.out G2.out G3.out G4.out⟩⟩
      clear hst Q2 Q3 Q4 QZ HE
      simp [Leaves, settle, results, Tryd.results24, go_sem, r0, r1, r2, r3]
      exact HPo.out
     | true =>
      replace he : e = .returned (.tuple #[]) := he
      subst he
      have HE : Aside0 (decR bs = .ok (G, withCode (hsOf bs N) s.2.2)) := ⟨by rw [HD.out, if_pos (by rw [← HNx.out, ← Hn.out]; have := HEb.out; rw [beq_iff_eq] at this; omega)]⟩
      have Q2 := Aside0.mk (HK2.out.blk P2.out N2.out (by simp))
      have Q3 := Aside0.mk (HK2.out.blk P3.out N3.out (by simp))
      have Q4 := Aside0.mk (HK2.out.blk P4.out N4.out (by simp))
      have c0 : we.cell? ⟨g, 0, none⟩ = some (.int .i64 G) := HA2.out.c0
      have c1 : we.cell? ⟨g, 1, none⟩ = some (.slice (some ⟨bF, 0, none⟩) N cF) := HA2.out.c1
      have d0 : we.cell? ⟨g2, 0, none⟩ = some (.int .i64 0) := (blk_cell Q2.out 0).trans rfl
      have d1 : we.cell? ⟨g2, 1, none⟩ = some (.slice none 0 0) := (blk_cell Q2.out 1).trans rfl
      have d2 := blk_frozen Q2.out 0
      have d3 := blk_frozen Q2.out 1
      have d4 : we.cell? ⟨g3, 0, none⟩ = some (.int .i64 0) := (blk_cell Q3.out 0).trans rfl
      have d5 := blk_frozen Q3.out 0
      have d6 : we.cell? ⟨g4, 0, none⟩ = some (.int .i64 0) := (blk_cell Q4.out 0).trans rfl
      have d7 := blk_frozen Q4.out 0
      have n1 : g3 ≠ g2 := blk_ne_ty Q3.out Q2.out (by decide)
      have n2 : g4 ≠ g2 := blk_ne_ty Q4.out Q2.out (by decide)
      have n3 : g4 ≠ g3 := blk_ne_ty Q4.out Q3.out (by decide)
      have n4 : ¬ g2 = g3 := fun e => n1 e.symm
      have n5 : ¬ g2 = g4 := fun e => n2 e.symm
      have n6 : ¬ g3 = g4 := fun e => n3 e.symm
      go_wp2_with fail
      clear c0 c1 d0 d1 d2 d3 d4 d5 d6 d7
      have L2 := blk_lt P2.out
      have L3 := blk_lt P3.out
      have L4 := blk_lt P4.out
      have f1 : (we.setCell ⟨g2, 0, none⟩ (.int .i64 G)).heap[g2]? = some (.cells #[.int .i64 G, .slice none 0 0] 24 (0, 0)) := (blk_set Q2.out 0 _).trans rfl
      have f2 : ((we.setCell ⟨g2, 0, none⟩ (.int .i64 G)).setCell ⟨g2, 1, none⟩ (.slice (some ⟨bF, 0, none⟩) N cF)).heap[g2]? = some (.cells #[.int .i64 G, .slice (some ⟨bF, 0, none⟩) N cF] 24 (0, 0)) := (blk_set f1 1 _).trans rfl
      have R2 : Aside0 (((((we.setCell ⟨g2, 0, none⟩ (.int .i64 G)).setCell ⟨g2, 1, none⟩ (.slice (some ⟨bF, 0, none⟩) N cF)).setCell ⟨g3, 0, none⟩ (.int .i64 0)).setCell ⟨g4, 0, none⟩ (.int .i64 0)).heap[g2]? = some (.cells #[.int .i64 G, .slice (some ⟨bF, 0, none⟩) N cF] 24 (0, 0))) := ⟨by rw [Below.heap_setCell _ _ _ _ n5, Below.heap_setCell _ _ _ _ n4]; exact f2⟩
      have f3 : (((we.setCell ⟨g2, 0, none⟩ (.int .i64 G)).setCell ⟨g2, 1, none⟩ (.slice (some ⟨bF, 0, none⟩) N cF)).setCell ⟨g3, 0, none⟩ (.int .i64 0)).heap[g3]? = some (.cells #[.int .i64 0] 27 (0, 0)) := (blk_set (by rw [Below.heap_setCell _ _ _ _ n1, Below.heap_setCell _ _ _ _ n1]; exact Q3.out) 0 _).trans rfl
      have R3 : Aside0 (((((we.setCell ⟨g2, 0, none⟩ (.int .i64 G)).setCell ⟨g2, 1, none⟩ (.slice (some ⟨bF, 0, none⟩) N cF)).setCell ⟨g3, 0, none⟩ (.int .i64 0)).setCell ⟨g4, 0, none⟩ (.int .i64 0)).heap[g3]? = some (.cells #[.int .i64 0] 27 (0, 0))) := ⟨by rw [Below.heap_setCell _ _ _ _ n6]; exact f3⟩
      have R4 : Aside0 (((((we.setCell ⟨g2, 0, none⟩ (.int .i64 G)).setCell ⟨g2, 1, none⟩ (.slice (some ⟨bF, 0, none⟩) N cF)).setCell ⟨g3, 0, none⟩ (.int .i64 0)).setCell ⟨g4, 0, none⟩ (.int .i64 0)).heap[g4]? = some (.cells #[.int .i64 0] 3 (0, 0))) := ⟨(blk_set (by rw [Below.heap_setCell _ _ _ _ n3, Below.heap_setCell _ _ _ _ n2, Below.heap_setCell _ _ _ _ n2]; exact Q4.out) 0 _).trans rfl⟩
      have HPr := to_prog HF2.out HC2.out HIn.out.1
      rw [withCode_eq s.2.2 (HFe.out.trans HFs.out)] at HPr
      have HR : Aside0 (k46.R 46 ((((we.setCell ⟨g2, 0, none⟩ (.int .i64 G)).setCell ⟨g2, 1, none⟩ (.slice (some ⟨bF, 0, none⟩) N cF)).setCell ⟨g3, 0, none⟩ (.int .i64 0)).setCell ⟨g4, 0, none⟩ (.int .i64 0)) w.heap.size (fun k => w.heap.size ≤ k) (.slice (some ⟨bF, 0, none⟩) N cF) (withCode (hsOf bs N) s.2.2)) := ⟨Kd.R_lower (Kd.R_mono (Kd.R_far (Kd.R_far (Kd.R_far (Kd.R_far HPr (fun k hk => by show k ≠ g2; omega) _) (fun k hk => by show k ≠ g2; omega) _) (fun k hk => by show k ≠ g3; omega) _) (fun k hk => by show k ≠ g4; omega) _) (fun k hk => Nat.le_trans HZp.out.size hk)) HZp.out.size⟩
      have HZ9 : Aside0 (Below w.heap.size w ((((we.setCell ⟨g2, 0, none⟩ (.int .i64 G)).setCell ⟨g2, 1, none⟩ (.slice (some ⟨bF, 0, none⟩) N cF)).setCell ⟨g3, 0, none⟩ (.int .i64 0)).setCell ⟨g4, 0, none⟩ (.int .i64 0))) := ⟨below_set (below_set (below_set (below_set HZ2.out G2.out) G2.out) G3.out) G4.out⟩
      obtain ⟨wf, hwf⟩ : ∃ wf, wf = ((((we.setCell ⟨g2, 0, none⟩ (.int .i64 G)).setCell ⟨g2, 1, none⟩ (.slice (some ⟨bF, 0, none⟩) N cF)).setCell ⟨g3, 0, none⟩ (.int .i64 0)).setCell ⟨g4, 0, none⟩ (.int .i64 0)) := ⟨_, rfl⟩
      rw [← hwf] at R2 R3 R4 HR HZ9 ⊢
      clear hwf f1 f2 f3 HPr L2 L3 L4 n1 n2 n3 n4 n5 n6 Q2 Q3 Q4 HF2 HC2 HZ2 HK2 HA2
      refine leaves_cons (f := 41) (args := #[.pointer (some ⟨g2, 0, none⟩), .pointer (some ⟨g3, 0, none⟩), .pointer (some ⟨g4, 0, none⟩)]) (by simp) (by simp [go_sem]) ?_
      refine (catchD_idle g2 g3 g4 wf).mono ?_
      rintro e u' w'' ⟨rfl, rfl, hst⟩
      have r0 : w''.cell? ⟨g2, 0, none⟩ = some (.int .i64 G) := (blk_cell (by rw [hst]; exact blk_alloc R2.out _) 0).trans rfl
      have r1 : w''.cell? ⟨g2, 1, none⟩ = some (.slice (some ⟨bF, 0, none⟩) N cF) := (blk_cell (by rw [hst]; exact blk_alloc R2.out _) 1).trans rfl
      have r2 : w''.cell? ⟨g3, 0, none⟩ = some (.int .i64 0) := (blk_cell (by rw [hst]; exact blk_alloc R3.out _) 0).trans rfl
      have r3 : w''.cell? ⟨g4, 0, none⟩ = some (.int .i64 0) := (blk_cell (by rw [hst]; exact blk_alloc R4.out _) 0).trans rfl
      have HPo : Aside0 (DecPost w bs (.returned (.tuple #[.agg #[.int .i64 G, .slice (some ⟨bF, 0, none⟩) N cF], .int .i64 0, .int .i64 0])) w'') := ⟨by unfold DecPost decOut; rw [HE.out, hst]; exact ⟨_, rfl, Kd.R_alloc HR.out _, HZ9.out.alloc HZ9.out.size _⟩⟩
      clear hst
      simp [Leaves, settle, results, Tryd.results24, go_sem, r0, r1, r2, r3]
      exact HPo.out
    have hwp : wrap64 ((q : Int) + 1) = (q : Int) + 1 := wrap_in (by have := HNr.out; omega) (by have := HNr.out; omega)
    have HW1 := Aside0.mk hwp
    have q0 : (0 : Int) ≤ (q : Int) := Int.natCast_nonneg q
    have q1 : (q : Int) < (N : Int) := Int.ofNat_lt.mpr hlt
    have HLt := Aside0.mk hlt
    have hs1 : wr.cell? ⟨g, 1, none⟩ = some (.slice (some ⟨bF, 0, none⟩) N cF) := HAf.out.c1
    have hsz := sz_cell HSf.out q hlt
    have HMr := Aside0.mk (HRn2.out.2.2 q hlt)
    obtain ⟨m, hm9⟩ : ∃ m, m = hvN bs (9 + 5 * q) := ⟨_, rfl⟩
    have HMv := Aside0.mk hm9
    rw [← hm9] at hsz HMr
    obtain ⟨M, rfl⟩ : ∃ M : Nat, m = (M : Int) := ⟨m.toNat, by have := HMr.out; omega⟩
    clear hm9 hwp
    go_wp2_with fail
    have HHl : Aside0 (hs.length = N) := ⟨((Kd.R_reads' HFf.out).1).symm⟩
    have HAt := Aside0.mk (fs_heads (HFe.out.trans HFs.out) q (by rw [HHl.out]; exact HLt.out) (by rw [hsOf_len]; exact HLt.out))
    rw [hs_at bs N q HLt.out] at HAt
    have HStp := Aside0.mk (runE_next HRf.out)
    obtain ⟨R, hR⟩ : ∃ R, R = (hvOf bs (9 + 5 * q)).R := ⟨_, rfl⟩
    obtain ⟨V, hV⟩ : ∃ V, V = (hvOf bs (9 + 5 * q)).V := ⟨_, rfl⟩
    have HRv := Aside0.mk hR
    have HVv := Aside0.mk hV
    rw [← hR, ← hV] at HAt
    have HStq : Aside0 (funcStep G fs bs q s = match runE (codeStep G fs R V (M : Int) bs) (s.1, s.2.1, []) M with | .error e => .error e | .ok t => .ok (t.1, t.2.1, s.2.2 ++ [t.2.2])) := ⟨by unfold funcStep; rw [← HMv.out, ← hR, ← hV, Int.toNat_natCast]; rfl⟩
    clear hR hV hs1 hsz q0 q1
    go_loopw [92] (fun v92 w' => ∃ (k3 : Nat) (t : Nat × Int × List S50) (vq : Value) (hs2 : List HV) (a : Int), k3 ≤ M ∧ v92 = .int .i64 (k3 : Int) ∧ Aside0 (runE (codeStep G fs R V (M : Int) bs) (s.1, s.2.1, []) k3 = .ok t) ∧ Aside0 (AskW w' g 80 (rdR A bs.length c (t.1 : Int)) G (some ⟨bF, 0, none⟩) N cF B t.2.1 a) ∧ Aside0 (kH.R 46 w' wp.heap.size (fun k => wp.heap.size ≤ k) (.slice (some ⟨bF, 0, none⟩) N cF) hs2) ∧ Aside0 ((hs2.getD q hv0).c = vq) ∧ Aside0 (fsOf hs2 = fs) ∧ Aside0 (∀ i, q + 1 ≤ i → i < N → (hs2.getD i hv0).c = .slice none 0 0) ∧ Aside0 (CodeQ w' wp.heap.size hs2 s.2.2 q vq) ∧ Aside0 (k50.R 50 w' wp.heap.size (fun k => wp.heap.size ≤ k) vq t.2.2) ∧ Aside0 (kI.R 3 w' wp.heap.size (fun k => wp.heap.size ≤ k) (.slice (some ⟨bS, 0, none⟩) N cS) (szOf bs N)) ∧ Aside0 (t.2.2.length = k3 ∧ t.1 ≤ bs.length ∧ 0 ≤ t.2.1 ∧ t.2.1 < 1048576) ∧ Aside0 (Below w.heap.size w w') ∧ Aside0 (KeepBut wp w' g none)) (fun i _ => M - (intOf i).toNat)
    case atStart => exact ⟨0, (s.1, s.2.1, []), .slice none 0 0, hs, a, Nat.zero_le _, rfl, ⟨rfl⟩, HAf, HFf, ⟨HNil.out q (Nat.le_refl _) HLt.out⟩, HFe, ⟨fun i h1 h2 => HNil.out i (by omega) h2⟩, HCq, ⟨Kd.R_nil _ _ _ _ _⟩, HSf, ⟨rfl, HIn.out.2.1, HIn.out.2.2.1, HIn.out.2.2.2⟩, HZf, HKf⟩
    case round =>
     obtain ⟨k3, t, vq, hs2, a2, hk3, rfl, HRk, HAk, HFk, HCk, HEk, HNk, HQk, HXk, HSk, HIk, HZk, HKk⟩ := hrel
     clear HAf HFf HFe HNil HCq HSf HZf HKf HHl HAt
     by_cases hlt3 : k3 < M
     rotate_left
     ·obtain rfl : M = k3 := by omega
      have HSt2 : Aside0 (runE (funcStep G fs bs) (9 + 5 * N, l, []) (q + 1) = .ok (t.1, t.2.1, s.2.2 ++ [t.2.2])) := ⟨by rw [HStp.out, HStq.out, HRk.out]⟩
      have HC2 : Aside0 (CodeQ wr wp.heap.size hs2 (s.2.2 ++ [t.2.2]) (q + 1) (.slice none 0 0)) := ⟨CodeQ.next HQk.out HXk.out HCk.out HIn.out.1⟩
      have HI2 : Aside0 ((s.2.2 ++ [t.2.2]).length = q + 1 ∧ t.1 ≤ bs.length ∧ 0 ≤ t.2.1 ∧ t.2.1 < 1048576) := ⟨by rw [List.length_append, HIn.out.1]; rfl, HIk.out.2.1, HIk.out.2.2.1, HIk.out.2.2.2⟩
      have hwp := HW1.out
      clear hlt3 hk3
      go_wp2_with fail
      go_roundw
      case rel => exact ⟨q + 1, (t.1, t.2.1, s.2.2 ++ [t.2.2]), hs2, a2, Nat.succ_le_of_lt HLt.out, by go_num, HSt2, HAk, HFk, HEk, HNk, HC2, HSk, HI2, HZk, HKk⟩
      case measure => rw [hwp]; exact Nat.sub_lt_sub_left (show q < N from HLt.out) (show q < q + 1 from Nat.lt_succ_self q)
     have hwp2 : wrap64 ((k3 : Int) + 1) = (k3 : Int) + 1 := wrap_in (by have := HMr.out; omega) (by have := HMr.out; omega)
     have hwm : wrap64 ((M : Int) - 1) = (M : Int) - 1 := wrap_in (by have := HMr.out; omega) (by have := HMr.out; omega)
     have k0 : (0 : Int) ≤ (k3 : Int) := Int.natCast_nonneg k3
     have k1 : (k3 : Int) < (M : Int) := Int.ofNat_lt.mpr hlt3
     have q0 : (0 : Int) ≤ (q : Int) := Int.natCast_nonneg q
     have q1 : (q : Int) < (N : Int) := Int.ofNat_lt.mpr HLt.out
     have HLt3 := Aside0.mk hlt3
     obtain ⟨lb, hlb⟩ : ∃ lb, ((k3 : Int) == (M : Int) - 1) = lb := ⟨_, rfl⟩
     have HLb := Aside0.mk hlb
     obtain ⟨Aq, cq, hvq⟩ := Kd.R_slice HXk.out
     subst hvq
     rw [HIk.out.1] at HXk HCk HQk
     have HCell := Aside0.mk (kH_at HFk.out q HLt.out)
     have hs0 := HCell.out.2.2.2.1
     rw [HCk.out] at hs0
     have hsz := sz_cell HSk.out q HLt.out
     rw [← HMv.out] at hsz
     have HHl2 : Aside0 (hs2.length = N) := ⟨((Kd.R_reads' HFk.out).1).symm⟩
     have HAt2 := Aside0.mk (fs_heads (HEk.out.trans HFs.out) q (by rw [HHl2.out]; exact HLt.out) (by rw [hsOf_len]; exact HLt.out))
     rw [hs_at bs N q HLt.out, ← HRv.out, ← HVv.out] at HAt2
     have HIns := Aside0.mk (instr_rd g ⟨bF, q * 4, none⟩ R V (M : Int) fs lb G (some ⟨bF, 0, none⟩) cF B t.2.1 a2 A c bs t.1 w wr.drew HZk.out.drew G15.out (by rw [HFl.out]; exact HAk.out) HBs.out HIk.out.2.1 HBy.out HIk.out.2.2.1 HIk.out.2.2.2 HbF.out (by rw [← HAt2.out.2.1]; exact HCell.out.2.1) (by rw [← HAt2.out.2.2]; exact HCell.out.2.2.1) (HEk.out ▸ kH_heads (Kd.R_drew HFk.out)) (fun ad he => by injection he with he; subst he; exact HbF.out) HT.out (OpsAt.keep (w' := wr.drew) HOp.out HKk.out HBg.out HAp.out) HBg.out)
     have HStk := Aside0.mk (runE_next HRk.out)
     have HCs : Aside0 (codeStep G fs R V (M : Int) bs k3 t = match instrR G fs R V (M : Int) bs lb t.1 t.2.1 with | .error e => .error e | .ok t2 => .ok (t2.2.1, t2.2.2, t.2.2 ++ [t2.1])) := ⟨by unfold codeStep; rw [hlb]; rfl⟩
     have HIo : Aside0 (∀ x, instrR G fs R V (M : Int) bs lb t.1 t.2.1 = .ok x → x.2.1 ≤ bs.length ∧ 0 ≤ x.2.2 ∧ x.2.2 < 1048576) := ⟨fun x hx => instrR_ok HBy.out ⟨HIk.out.2.2.1, HIk.out.2.2.2⟩ hx⟩
     have HHX : Aside0 (∀ k_, (Value.slice Aq k3 cq).ownBlock = some k_ → k_ < wr.heap.size) := ⟨Kd.R_lt HXk.out⟩
     have HW2 := Aside0.mk hwp2
     clear hwp2 hlt3 hk3
     go_wp2_with fail
     clear q0 q1 k0 k1
     generalize hres : instrR G fs R V (M : Int) bs lb t.1 t.2.1 = res at HIns HCs HIo
     cases res with
     | error er =>
      have HIe : Aside0 (Calls Tryd.prog 47 #[.pointer (some ⟨g, 0, none⟩), .pointer (some ⟨bF, q * 4, none⟩), .int .i64 (M : Int), .bool lb] wr.drew fun e w'' => e = .panicked [{ v := stopV er.1 er.2, recovered := false }] ∧ Below w.heap.size w w'' ∧ KeepBut wr.drew w'' g none) := ⟨HIns.out.mono fun e w'' h => ⟨h.2.2, h.1, h.2.1⟩⟩
      refine wp_defq ?_
      refine start_ (n := 24) (S := fun w' => w'.cell? ⟨bF, q * 4 + 3, none⟩ = some (.slice Aq k3 cq) ∧ w'.cell? ⟨bS, q, none⟩ = some (.int .i64 (M : Int))) (ds := []) #[false, false, false, false, false, false, false, false, false, false, false, false, false, false, false, false, false, false, false, false, false, false, false, false] (by kernel_rfl) rfl rfl ⟨hs0, hsz⟩ (fun hHeld => ?_)
      refine with_tabW TAB_24.tab23 TAB_24.bits23 (fun HT_ HW_ => ?_)
      refine pq 0 (some 95) (v := ?_) (a' := ?_) rfl rfl (any_of HT_.out (by kernel_rfl)) (fun _ _ _ h => DefQ.put h) (Or.inl ⟨by rfl, ?_⟩) ?_ ?_
      rotate_left; (intro w'; go_simp; with_reducible rfl); rotate_left; (simp only [Act.put, pn, i64_w, i32_w]; rfl)
      refine pq 1 (some 96) (v := ?_) (a' := ?_) rfl rfl (any_of HT_.out (by kernel_rfl)) (fun _ _ _ h => DefQ.put h) (Or.inl ⟨by rfl, ?_⟩) ?_ ?_
      rotate_left; (intro w'; go_simp; with_reducible rfl); rotate_left; (simp only [Act.put, pn, i64_w, i32_w]; rfl)
      refine pq 2 (some 97) (v := ?_) (a' := ?_) rfl rfl (any_of HT_.out (by kernel_rfl)) (fun _ _ _ h => DefQ.put h) (Or.inl ⟨by rfl, ?_⟩) ?_ ?_
      rotate_left; (intro w'; go_simp; with_reducible rfl); rotate_left; (simp only [Act.put, pn, i64_w, i32_w]; rfl)
      refine pq 3 (some 98) (v := ?_) (a' := ?_) rfl rfl (any_of HT_.out (by kernel_rfl)) (fun _ _ _ h => DefQ.put h) (Or.inl ⟨by rfl, ?_⟩) ?_ ?_
      rotate_left; (intro w'; go_simp; with_reducible rfl); rotate_left; (simp only [Act.put, pn, i64_w, i32_w]; rfl)
      refine pq 5 (some 100) (v := ?_) (a' := ?_) rfl rfl (any_of HT_.out (by kernel_rfl)) (fun _ _ _ h => DefQ.put h) (Or.inl ⟨by rfl, ?_⟩) ?_ ?_
      rotate_left; (intro w'; go_simp; with_reducible rfl); rotate_left; (simp only [Act.put, pn, i64_w, i32_w]; rfl)
      refine pq 6 (some 101) (v := ?_) (a' := ?_) rfl rfl (any_of HT_.out (by kernel_rfl)) (fun _ _ _ h => DefQ.put h) (Or.inl ⟨by rfl, ?_⟩) ?_ ?_
      rotate_left; (intro w'; go_simp; with_reducible rfl); rotate_left; (simp only [Act.put, pn, i64_w, i32_w]; rfl)
      refine pq 7 (some 102) (v := ?_) (a' := ?_) rfl rfl (any_of HT_.out (by kernel_rfl)) (fun _ _ _ h => DefQ.put h) (Or.inl ⟨by rfl, ?_⟩) ?_ ?_
      rotate_left; (intro w'; go_simp; with_reducible rfl); rotate_left; (simp only [Act.put, pn, i64_w, i32_w]; rfl)
      refine pq 8 (some 103) (v := ?_) (a' := ?_) rfl rfl (any_of HT_.out (by kernel_rfl)) (fun _ _ _ h => DefQ.put h) (Or.inl ⟨by rfl, ?_⟩) ?_ ?_
      rotate_left; (intro w'; go_simp; with_reducible rfl); rotate_left; (simp only [Act.put, pn, i64_w, i32_w]; rfl)
      refine pq 9 (some 104) (v := ?_) (a' := ?_) rfl rfl (any_of HT_.out (by kernel_rfl)) (fun _ _ _ h => DefQ.put h) (Or.inl ⟨by rfl, ?_⟩) ?_ ?_
      rotate_left; (intro w'; go_simp; with_reducible rfl); rotate_left; (simp only [Act.put, pn, i64_w, i32_w]; rfl)
      refine pq 11 (some 106) (v := ?_) (a' := ?_) rfl rfl (any_of HT_.out (by kernel_rfl)) (fun _ _ _ h => DefQ.put h) (Or.inl ⟨by rfl, ?_⟩) ?_ ?_
      rotate_left; (intro w'; go_simp; with_reducible rfl); rotate_left; (simp only [Act.put, pn, i64_w, i32_w]; rfl)
      refine pq 12 (some 107) (v := ?_) (a' := ?_) rfl rfl (any_of HT_.out (by kernel_rfl)) (fun _ _ _ h => DefQ.put h) (Or.inl ⟨by rfl, ?_⟩) ?_ ?_
      rotate_left; (intro w'; go_simp; with_reducible rfl); rotate_left; (simp only [Act.put, pn, i64_w, i32_w]; rfl)
      refine pq 13 (some 108) (v := ?_) (a' := ?_) rfl rfl (any_of HT_.out (by kernel_rfl)) (fun _ _ _ h => DefQ.put h) (Or.inl ⟨by rfl, ?_⟩) ?_ ?_
      rotate_left; (intro w'; go_simp; with_reducible rfl); rotate_left; (simp only [Act.put, pn, i64_w, i32_w]; rfl)
      refine pq 14 (some 109) (v := ?_) (a' := ?_) rfl rfl (any_of HT_.out (by kernel_rfl)) (fun _ _ _ h => DefQ.put h) (Or.inl ⟨by rfl, ?_⟩) ?_ ?_
      rotate_left; (intro w'; go_simp; with_reducible rfl); rotate_left; (simp only [Act.put, pn, i64_w, i32_w]; rfl)
      refine pt 4 (some 99) (v := ?_) (a' := ?_) rfl rfl (take_ofW HT_.out HW_.out (by kernel_rfl)) (fun _ _ _ h => DefQ.put h) (Or.inl ⟨by rfl, ?_⟩) hHeld ?_ ?_
      rotate_left; (rintro w' ⟨s0, s1⟩; go_simp; with_reducible rfl); rotate_left; (simp only [Act.put, pn, i64_w, i32_w]; rfl)
      refine pt 10 (some 105) (v := ?_) (a' := ?_) rfl rfl (take_ofW HT_.out HW_.out (by kernel_rfl)) (fun _ _ _ h => DefQ.put h) (Or.inl ⟨by rfl, ?_⟩) hHeld ?_ ?_
      rotate_left; (rintro w' ⟨s0, s1⟩; go_simp; with_reducible rfl); rotate_left; (simp only [Act.put, pn, i64_w, i32_w]; rfl)
      refine pt 15 (some 110) (v := ?_) (a' := ?_) rfl rfl (take_ofW HT_.out HW_.out (by kernel_rfl)) (fun _ _ _ h => DefQ.put h) (Or.inl ⟨by rfl, ?_⟩) hHeld ?_ ?_
      rotate_left; (rintro w' ⟨s0, s1⟩; go_simp; with_reducible rfl); rotate_left; (simp only [Act.put, pn, i64_w, i32_w]; rfl)
      refine pq 16 (some 111) (v := ?_) (a' := ?_) rfl rfl (any_of HT_.out (by kernel_rfl)) (fun _ _ _ h => DefQ.put h) (Or.inl ⟨by rfl, ?_⟩) ?_ ?_
      rotate_left; (intro w'; go_simp; with_reducible rfl); rotate_left; (simp only [Act.put, pn, i64_w, i32_w]; rfl)
      refine pq 17 (some 112) (v := ?_) (a' := ?_) rfl rfl (any_of HT_.out (by kernel_rfl)) (fun _ _ _ h => DefQ.put h) (Or.inl ⟨by rfl, ?_⟩) ?_ ?_
      rotate_left; (intro w'; go_simp; with_reducible rfl); rotate_left; (simp only [Act.put, pn, i64_w, i32_w]; rfl)
      refine one_ (i := 18) (N := some 113) #[true, true, true, true, true, true, true, true, true, true, true, true, true, true, true, true, true, true, true, false, false, false, false, false] rfl rfl (one_of HT_.out (by kernel_rfl)) (by decide) (fun K hK => ?_)
      refine goesP_ Tryd.func47 (by kernel_rfl) rfl #[.pointer (some ⟨g, 0, none⟩), .pointer (some ⟨bF, q * 4, none⟩), .int .i64 (M : Int), .bool lb] (by rfl) rfl rfl (by simp only [List.map_toArray, List.map_cons, List.map_nil]; rfl) ?_
      with_reducible refine HIe.out.mono ?_
      rintro e_ wm ⟨rfl, hZ, hK⟩
      refine ⟨_, rfl, ?_⟩
      rintro ⟨T, D⟩ hD ht
      replace hD : D = _ := hD
      subst hD
      have t2 : T[2]?.getD undef = .pointer (some ⟨g2, 0, none⟩) := (ht 2 (by omega)).trans rfl
      have t3 : T[3]?.getD undef = .pointer (some ⟨g3, 0, none⟩) := (ht 3 (by omega)).trans rfl
      have t4 : T[4]?.getD undef = .pointer (some ⟨g4, 0, none⟩) := (ht 4 (by omega)).trans rfl
      clear ht
      have HZm := Aside0.mk hZ
      have HKm2 : Aside0 (KeepBut wp wm g none) := ⟨KeepBut.trans HKk.out hK (.inl rfl)⟩
      clear hZ hK hHeld HT_ HW_ hs0 hsz
      dsimp only
      have HE : Aside0 (decR bs = .error (er.1, er.2)) := ⟨by have hin := runE_err (show runE (codeStep G fs R V (M : Int) bs) (s.1, s.2.1, []) (k3 + 1) = .error er from by rw [HStk.out, HCs.out]) M (by have := HLt3.out; omega); have hou := runE_err (show runE (funcStep G fs bs) (9 + 5 * N, l, []) (q + 1) = .error er from by rw [HStp.out, HStq.out, hin]) N (by have := HLt.out; omega); unfold decR; rw [if_pos HMg.out, if_pos (show 6 ≤ bs.length by have := L6.out; omega), if_pos (show 7 ≤ bs.length by have := L7.out; omega), ← HGv.out, if_pos H1.out, if_pos (show 9 ≤ bs.length by have := L9.out; omega), HCn.out, if_pos H2.out, Int.toNat_natCast, HRh.out]; dsimp only; rw [← HFs.out, hou]⟩
      have Q2 := Aside0.mk (HKm2.out.blk P2.out N2.out (by simp))
      have Q3 := Aside0.mk (HKm2.out.blk P3.out N3.out (by simp))
      have Q4 := Aside0.mk (HKm2.out.blk P4.out N4.out (by simp))
      have QZ := Aside0.mk (HZm.out)
      go_wp2_with fail
      refine leaves_cons (f := 41) (args := #[.pointer (some ⟨g2, 0, none⟩), .pointer (some ⟨g3, 0, none⟩), .pointer (some ⟨g4, 0, none⟩)]) (by simp) (by simp [go_sem]) ?_
      refine (catchD_stop g2 g3 g4 0 0 (er.1) (er.2) (.slice none 0 0) wm Q2.out Q3.out ⟨0, Q4.out⟩).mono ?_
      rintro e u' w'' ⟨rfl, rfl, hst⟩
      have r0 : w''.cell? ⟨g2, 0, none⟩ = some (.int .i64 0) := (blk_cell hst.1 0).trans rfl
      have r1 : w''.cell? ⟨g2, 1, none⟩ = some (.slice none 0 0) := (blk_cell hst.1 1).trans rfl
      have r2 : w''.cell? ⟨g3, 0, none⟩ = some (.int .i64 (er.1)) := (blk_cell hst.2.1 0).trans rfl
      have r3 : w''.cell? ⟨g4, 0, none⟩ = some (.int .i64 (er.2)) := (blk_cell hst.2.2.1 0).trans rfl
      have HPo : Aside0 (DecPost w bs (.returned (.tuple #[.agg #[.int .i64 0, .slice none 0 0], .int .i64 (er.1), .int .i64 (er.2)])) w'') := ⟨by unfold DecPost decOut; rw [HE.out]; exact ⟨.slice none 0 0, rfl, Kd.R_nil _ _ _ _ _, hst.2.2.2 w QZ.out G2.out G3.out G4.out⟩⟩
      clear hst Q2 Q3 Q4 QZ HE
      simp [Leaves, settle, results, Tryd.results24, go_sem, r0, r1, r2, r3, t2, t3, t4]
      exact HPo.out
     | ok x =>
      have HIe : Aside0 (Calls Tryd.prog 47 #[.pointer (some ⟨g, 0, none⟩), .pointer (some ⟨bF, q * 4, none⟩), .int .i64 (M : Int), .bool lb] wr.drew fun e w'' => (∃ v5 v6, e = .returned (.agg #[.int .i64 x.1.f0, .int .i64 x.1.f1, .int .i64 x.1.f2, .int .i64 x.1.f3, .int .i64 x.1.f4, v5, v6]) ∧ kI.R 3 w'' wr.drew.heap.size (fun k => wr.drew.heap.size ≤ k) v5 x.1.f5 ∧ kI.R 3 w'' wr.drew.heap.size (fun k => wr.drew.heap.size ≤ k) v6 x.1.f6) ∧ (∃ at_, AskW w'' g 80 (rdR A bs.length c (x.2.1 : Int)) G (some ⟨bF, 0, none⟩) N cF B x.2.2 at_) ∧ Below w.heap.size w w'' ∧ KeepBut wr.drew w'' g none) := ⟨HIns.out.mono fun e w'' h => ⟨h.2.2.1, (by have := h.2.2.2; rw [HFl.out] at this; exact this), h.1, h.2.1⟩⟩
      refine wp_defq ?_
      refine start_ (n := 24) (S := fun w' => w'.cell? ⟨bF, q * 4 + 3, none⟩ = some (.slice Aq k3 cq) ∧ w'.cell? ⟨bS, q, none⟩ = some (.int .i64 (M : Int))) (ds := [23]) #[false, false, false, false, false, false, false, false, false, false, false, false, false, false, false, false, false, false, false, false, false, false, false, false] (by kernel_rfl) rfl rfl ⟨hs0, hsz⟩ (fun hHeld => ?_)
      refine with_tabW TAB_24.tab23 TAB_24.bits23 (fun HT_ HW_ => ?_)
      refine pq 0 (some 95) (v := ?_) (a' := ?_) rfl rfl (any_of HT_.out (by kernel_rfl)) (fun _ _ _ h => DefQ.put h) (Or.inl ⟨by rfl, ?_⟩) ?_ ?_
      rotate_left; (intro w'; go_simp; with_reducible rfl); rotate_left; (simp only [Act.put, pn, i64_w, i32_w]; rfl)
      refine pq 1 (some 96) (v := ?_) (a' := ?_) rfl rfl (any_of HT_.out (by kernel_rfl)) (fun _ _ _ h => DefQ.put h) (Or.inl ⟨by rfl, ?_⟩) ?_ ?_
      rotate_left; (intro w'; go_simp; with_reducible rfl); rotate_left; (simp only [Act.put, pn, i64_w, i32_w]; rfl)
      refine pq 2 (some 97) (v := ?_) (a' := ?_) rfl rfl (any_of HT_.out (by kernel_rfl)) (fun _ _ _ h => DefQ.put h) (Or.inl ⟨by rfl, ?_⟩) ?_ ?_
      rotate_left; (intro w'; go_simp; with_reducible rfl); rotate_left; (simp only [Act.put, pn, i64_w, i32_w]; rfl)
      refine pq 3 (some 98) (v := ?_) (a' := ?_) rfl rfl (any_of HT_.out (by kernel_rfl)) (fun _ _ _ h => DefQ.put h) (Or.inl ⟨by rfl, ?_⟩) ?_ ?_
      rotate_left; (intro w'; go_simp; with_reducible rfl); rotate_left; (simp only [Act.put, pn, i64_w, i32_w]; rfl)
      refine pq 5 (some 100) (v := ?_) (a' := ?_) rfl rfl (any_of HT_.out (by kernel_rfl)) (fun _ _ _ h => DefQ.put h) (Or.inl ⟨by rfl, ?_⟩) ?_ ?_
      rotate_left; (intro w'; go_simp; with_reducible rfl); rotate_left; (simp only [Act.put, pn, i64_w, i32_w]; rfl)
      refine pq 6 (some 101) (v := ?_) (a' := ?_) rfl rfl (any_of HT_.out (by kernel_rfl)) (fun _ _ _ h => DefQ.put h) (Or.inl ⟨by rfl, ?_⟩) ?_ ?_
      rotate_left; (intro w'; go_simp; with_reducible rfl); rotate_left; (simp only [Act.put, pn, i64_w, i32_w]; rfl)
      refine pq 7 (some 102) (v := ?_) (a' := ?_) rfl rfl (any_of HT_.out (by kernel_rfl)) (fun _ _ _ h => DefQ.put h) (Or.inl ⟨by rfl, ?_⟩) ?_ ?_
      rotate_left; (intro w'; go_simp; with_reducible rfl); rotate_left; (simp only [Act.put, pn, i64_w, i32_w]; rfl)
      refine pq 8 (some 103) (v := ?_) (a' := ?_) rfl rfl (any_of HT_.out (by kernel_rfl)) (fun _ _ _ h => DefQ.put h) (Or.inl ⟨by rfl, ?_⟩) ?_ ?_
      rotate_left; (intro w'; go_simp; with_reducible rfl); rotate_left; (simp only [Act.put, pn, i64_w, i32_w]; rfl)
      refine pq 9 (some 104) (v := ?_) (a' := ?_) rfl rfl (any_of HT_.out (by kernel_rfl)) (fun _ _ _ h => DefQ.put h) (Or.inl ⟨by rfl, ?_⟩) ?_ ?_
      rotate_left; (intro w'; go_simp; with_reducible rfl); rotate_left; (simp only [Act.put, pn, i64_w, i32_w]; rfl)
      refine pq 11 (some 106) (v := ?_) (a' := ?_) rfl rfl (any_of HT_.out (by kernel_rfl)) (fun _ _ _ h => DefQ.put h) (Or.inl ⟨by rfl, ?_⟩) ?_ ?_
      rotate_left; (intro w'; go_simp; with_reducible rfl); rotate_left; (simp only [Act.put, pn, i64_w, i32_w]; rfl)
      refine pq 12 (some 107) (v := ?_) (a' := ?_) rfl rfl (any_of HT_.out (by kernel_rfl)) (fun _ _ _ h => DefQ.put h) (Or.inl ⟨by rfl, ?_⟩) ?_ ?_
      rotate_left; (intro w'; go_simp; with_reducible rfl); rotate_left; (simp only [Act.put, pn, i64_w, i32_w]; rfl)
      refine pq 13 (some 108) (v := ?_) (a' := ?_) rfl rfl (any_of HT_.out (by kernel_rfl)) (fun _ _ _ h => DefQ.put h) (Or.inl ⟨by rfl, ?_⟩) ?_ ?_
      rotate_left; (intro w'; go_simp; with_reducible rfl); rotate_left; (simp only [Act.put, pn, i64_w, i32_w]; rfl)
      refine pq 14 (some 109) (v := ?_) (a' := ?_) rfl rfl (any_of HT_.out (by kernel_rfl)) (fun _ _ _ h => DefQ.put h) (Or.inl ⟨by rfl, ?_⟩) ?_ ?_
      rotate_left; (intro w'; go_simp; with_reducible rfl); rotate_left; (simp only [Act.put, pn, i64_w, i32_w]; rfl)
      refine pt 4 (some 99) (v := ?_) (a' := ?_) rfl rfl (take_ofW HT_.out HW_.out (by kernel_rfl)) (fun _ _ _ h => DefQ.put h) (Or.inl ⟨by rfl, ?_⟩) hHeld ?_ ?_
      rotate_left; (rintro w' ⟨s0, s1⟩; go_simp; with_reducible rfl); rotate_left; (simp only [Act.put, pn, i64_w, i32_w]; rfl)
      refine pt 10 (some 105) (v := ?_) (a' := ?_) rfl rfl (take_ofW HT_.out HW_.out (by kernel_rfl)) (fun _ _ _ h => DefQ.put h) (Or.inl ⟨by rfl, ?_⟩) hHeld ?_ ?_
      rotate_left; (rintro w' ⟨s0, s1⟩; go_simp; with_reducible rfl); rotate_left; (simp only [Act.put, pn, i64_w, i32_w]; rfl)
      refine pt 15 (some 110) (v := ?_) (a' := ?_) rfl rfl (take_ofW HT_.out HW_.out (by kernel_rfl)) (fun _ _ _ h => DefQ.put h) (Or.inl ⟨by rfl, ?_⟩) hHeld ?_ ?_
      rotate_left; (rintro w' ⟨s0, s1⟩; go_simp; with_reducible rfl); rotate_left; (simp only [Act.put, pn, i64_w, i32_w]; rfl)
      refine pq 16 (some 111) (v := ?_) (a' := ?_) rfl rfl (any_of HT_.out (by kernel_rfl)) (fun _ _ _ h => DefQ.put h) (Or.inl ⟨by rfl, ?_⟩) ?_ ?_
      rotate_left; (intro w'; go_simp; with_reducible rfl); rotate_left; (simp only [Act.put, pn, i64_w, i32_w]; rfl)
      refine pq 17 (some 112) (v := ?_) (a' := ?_) rfl rfl (any_of HT_.out (by kernel_rfl)) (fun _ _ _ h => DefQ.put h) (Or.inl ⟨by rfl, ?_⟩) ?_ ?_
      rotate_left; (intro w'; go_simp; with_reducible rfl); rotate_left; (simp only [Act.put, pn, i64_w, i32_w]; rfl)
      refine one_ (i := 18) (N := some 113) #[true, true, true, true, true, true, true, true, true, true, true, true, true, true, true, true, true, true, true, false, false, false, false, false] rfl rfl (one_of HT_.out (by kernel_rfl)) (by decide) (fun K hK => ?_)
      refine goes_ Tryd.func47 (by kernel_rfl) rfl #[.pointer (some ⟨g, 0, none⟩), .pointer (some ⟨bF, q * 4, none⟩), .int .i64 (M : Int), .bool lb] (by rfl) rfl rfl (by simp only [List.map_toArray, List.map_cons, List.map_nil]; rfl) ?_
      with_reducible refine HIe.out.mono ?_
      rintro e_ wm ⟨⟨v5, v6, rfl, h5, h6⟩, ⟨a3, hA⟩, hZ, hK⟩
      obtain ⟨A5, c5, rfl⟩ := Kd.R_slice h5
      obtain ⟨A6, c6, rfl⟩ := Kd.R_slice h6
      obtain ⟨n5, hn5⟩ : ∃ n5, n5 = x.1.f5.length := ⟨_, rfl⟩
      obtain ⟨n6, hn6⟩ : ∃ n6, n6 = x.1.f6.length := ⟨_, rfl⟩
      rw [← hn5] at h5
      rw [← hn6] at h6
      rw [← hn5, ← hn6]
      have H5 := Aside0.mk h5
      have H6 := Aside0.mk h6
      have HAm := Aside0.mk hA
      have HZm := Aside0.mk hZ
      have HKm2 := Aside0.mk hK
      have HFm : Aside0 (kH.R 46 wm wp.heap.size (fun k => wp.heap.size ≤ k) (.slice (some ⟨bF, 0, none⟩) N cF) hs2) := ⟨Kd.R_keep (Kd.R_drew HFk.out) hK (fun k hk => by have := HGp.out; omega)⟩
      have HXm : Aside0 (k50.R 50 wm wp.heap.size (fun k => wp.heap.size ≤ k) (.slice Aq k3 cq) t.2.2) := ⟨Kd.R_keep (Kd.R_drew HXk.out) hK (fun k hk => by have := HGp.out; omega)⟩
      have HQm : Aside0 (CodeQ wm wp.heap.size hs2 s.2.2 q (.slice Aq k3 cq)) := ⟨(HQk.out.below (below_drew (Below.refl _ _))).keep hK HGp.out⟩
      have HSm : Aside0 (kI.R 3 wm wp.heap.size (fun k => wp.heap.size ≤ k) (.slice (some ⟨bS, 0, none⟩) N cS) (szOf bs N)) := ⟨Kd.R_keep (Kd.R_drew HSk.out) hK (fun k hk => by have := HGp.out; omega)⟩
      have hs0m : wm.cell? ⟨bF, q * 4 + 3, none⟩ = some (.slice Aq k3 cq) := by have := (kH_at HFm.out q HLt.out).2.2.2.1; rwa [HCk.out] at this
      have hszm : wm.cell? ⟨bS, q, none⟩ = some (.int .i64 (M : Int)) := by have := sz_cell HSm.out q HLt.out; rwa [← HMv.out] at this
      have HWm : Aside0 (wp.heap.size ≤ wm.heap.size) := ⟨Nat.le_trans HKk.out.1 hK.1⟩
      clear h5 h6 hA hZ hK hn5 hn6
      refine ⟨_, rfl, ?_⟩
      refine hK.out _ _ ⟨hs0m, hszm⟩ (fun hHeld => ?_)
      clear hK K
      refine norm_ (a' := ?_) ?_ ?_
      rotate_left
      ·show Act.put _ (some 113) _ = _
       simp only [Act.put, pn, i64_w, i32_w]
       rfl
      refine one_ (i := 19) (N := some 114) #[true, true, true, true, true, true, true, true, true, true, true, true, true, true, true, true, true, true, true, true, false, false, false, false] rfl rfl (one_of HT_.out (by kernel_rfl)) (by decide) (fun K hK => ?_)
      refine value_ (w1 := ?_) (v := ?_) (by rfl) rfl ?_ ?_
      rotate_left 2
      ·go_simp
       constructor
       ·rfl
       ·rfl
      show K _ (World.alloc wm (Obj.cells #[.int .i64 x.1.f0, .int .i64 x.1.f1, .int .i64 x.1.f2, .int .i64 x.1.f3, .int .i64 x.1.f4, .slice A5 n5 c5, .slice A6 n6 c6] 50))
      refine hK.out _ _ ⟨pw_cell_below (below_alloc (Below.refl _ _) _) hs0m, pw_cell_below (below_alloc (Below.refl _ _) _) hszm⟩ (fun hHeld => ?_)
      clear hK K
      refine norm_ (a' := ?_) ?_ ?_
      rotate_left
      ·show Act.put _ (some 114) _ = _
       simp only [Act.put, pn, i64_w, i32_w]
       rfl
      refine one_ (i := 20) (N := some 115) #[true, true, true, true, true, true, true, true, true, true, true, true, true, true, true, true, true, true, true, true, true, false, false, false] rfl rfl (one_of HT_.out (by kernel_rfl)) (by decide) (fun K hK => ?_)
      refine Kd.R_append_step k50 (w0 := wm) wp.heap.size (by rfl) (.tmp 99) (.tmp 114) 44 50 (.agg #[.int .i64 0, .int .i64 0, .int .i64 0, .int .i64 0, .int .i64 0, .slice none 0 0, .slice none 0 0]) 88 (by rfl) Tryd.underlying44 info50 (by rfl) (by decide) (by omega) (.slice Aq k3 cq) t.2.2 x.1 [.int .i64 x.1.f0, .int .i64 x.1.f1, .int .i64 x.1.f2, .int .i64 x.1.f3, .int .i64 x.1.f4, .slice A5 n5 c5, .slice A6 n6 c6] (fun k => wp.heap.size ≤ k) (fun k => wr.heap.size ≤ k) (by rfl) (by rfl) ?aP ?aK ?aF ?aO ?aB ?aS ?aL ?_
      case aP => exact k50_mkM wm wp.heap.size (fun k => wr.heap.size ≤ k) x.1 (Kd.R_lower H5.out HKk.out.1) (Kd.R_lower H6.out HKk.out.1)
      case aK => exact fun k hk => ⟨Nat.le_trans HKk.out.1 hk, fun e => by have := HHX.out k e.symm; omega⟩
      case aF => exact fun k hk => Nat.le_trans HWm.out hk
      case aO => exact HXm.out
      case aB => exact Below.refl _ _
      case aS => exact HWm.out
      case aL => rw [HIk.out.1]; have := HLt3.out; have := HMr.out; omega
      intro v7 w7 ho hb hgr hat
      have FA := Aside0.mk (blk_grown (show wm.heap[g]? = _ from HAm.out) hgr (Kd.R_ne HXm.out (show wm.heap[g]? = _ from HAm.out) (by decide)))
      have FT := KeepT.grown (ts := [50]) (g := g) HXm.out (by simp) hgr
      have FF : Aside0 (kH.R 46 w7 wp.heap.size (fun k => wp.heap.size ≤ k) (.slice (some ⟨bF, 0, none⟩) N cF) hs2) := ⟨FT.row HFm.out (by decide) (fun k hk => by have := HGp.out; omega)⟩
      have FS : Aside0 (kI.R 3 w7 wp.heap.size (fun k => wp.heap.size ≤ k) (.slice (some ⟨bS, 0, none⟩) N cS) (szOf bs N)) := ⟨FT.row HSm.out (by decide) (fun k hk => by have := HGp.out; omega)⟩
      have FQ := Aside0.mk (HQm.out.after hgr hat)
      obtain ⟨A7, c7, rfl⟩ := Kd.R_slice ho
      rw [List.length_append, HIk.out.1, List.length_singleton] at ho FQ
      have FR := Aside0.mk ho
      have FB := Aside0.mk hb
      rw [List.length_append, HIk.out.1, List.length_singleton]
      have hs07 : w7.cell? ⟨bF, q * 4 + 3, none⟩ = some (.slice Aq k3 cq) := by have := (kH_at FF.out q HLt.out).2.2.2.1; rwa [HCk.out] at this
      have hsz7 : w7.cell? ⟨bS, q, none⟩ = some (.int .i64 (M : Int)) := by have := sz_cell FS.out q HLt.out; rwa [← HMv.out] at this
      clear ho hb hgr hat FT
      refine hK.out _ _ ⟨hs07, hsz7⟩ (fun hHeld => ?_)
      clear hK K
      refine norm_ (a' := ?_) ?_ ?_
      rotate_left
      ·show Act.put _ (some 115) _ = _
       simp only [Act.put, pn, i64_w, i32_w]
       rfl
      refine pq 21 (some 116) (v := ?_) (a' := ?_) rfl rfl (any_of HT_.out (by kernel_rfl)) (fun _ _ _ h => DefQ.put h) (Or.inl ⟨by rfl, ?_⟩) ?_ ?_
      rotate_left; (intro w'; go_simp; with_reducible rfl); rotate_left; (simp only [Act.put, pn, i64_w, i32_w]; rfl)
      refine pq 22 (some 117) (v := ?_) (a' := ?_) rfl rfl (any_of HT_.out (by kernel_rfl)) (fun _ _ _ h => DefQ.put h) (Or.inl ⟨by rfl, ?_⟩) ?_ ?_
      rotate_left; (intro w'; go_simp; with_reducible rfl); rotate_left; (simp only [Act.put, pn, i64_w, i32_w]; rfl)
      refine last_ (i := 23) (N := none) #[true, true, true, true, true, true, true, true, true, true, true, true, true, true, true, true, true, true, true, true, true, true, true, true] rfl rfl (one_of HT_.out (by kernel_rfl)) (by decide) (fun K hK => ?_)
      have hfz := (kH_at FF.out q HLt.out).2.2.2.2
      refine skip_ (w1 := ?_) (by rfl) rfl ?_ ?_
      rotate_left
      ·go_simp
       rfl
      clear hfz
      refine hK.out _ _ ?_
      clear hK K
      refine done_ (done_of HT_.out (by kernel_rfl)) ?_
      refine (show DefQ _ Exit.normal _ _ from ?_)
      unfold DefQ
      clear hHeld HT_ HW_ hs0 hsz
      have H46 : ∃ ds, w7.heap[bF]? = some (Obj.cells ds 46 (0, 0)) := Kd.R_typed FF.out bF (by simp [Value.ownBlock])
      obtain ⟨ds, hds⟩ := H46
      have HHl3 : Aside0 (q < hs2.length) := ⟨by rw [HHl2.out]; exact HLt.out⟩
      have HA8 : Aside0 (AskW (w7.setCell ⟨bF, q * 4 + 3, none⟩ (.slice A7 (k3 + 1) c7)) g 80 (rdR A bs.length c (x.2.1 : Int)) G (some ⟨bF, 0, none⟩) N cF B x.2.2 a3) := ⟨(Below.heap_setCell w7 ⟨bF, q * 4 + 3, none⟩ _ g (fun e => HbF.out e.symm)).trans FA.out⟩
      obtain ⟨hv, hhv⟩ : ∃ hv : HV, hv = ⟨(hs2.getD q hv0).P, (hs2.getD q hv0).R, (hs2.getD q hv0).V, .slice A7 (k3 + 1) c7, rfl⟩ := ⟨_, rfl⟩
      have HF8 : Aside0 (kH.R 46 (w7.setCell ⟨bF, q * 4 + 3, none⟩ (.slice A7 (k3 + 1) c7)) wp.heap.size (fun k => wp.heap.size ≤ k) (.slice (some ⟨bF, 0, none⟩) N cF) (hs2.set q hv)) := ⟨by rw [hhv]; exact kH_set FF.out q HLt.out _ rfl⟩
      have HC8 : Aside0 (((hs2.set q hv).getD q hv0).c = .slice A7 (k3 + 1) c7) := ⟨by rw [set_getD_self hs2 q hv HHl3.out, hhv]⟩
      have HE8 : Aside0 (fsOf (hs2.set q hv) = fs) := ⟨by rw [hhv]; exact (fsOf_set hs2 q (.slice A7 (k3 + 1) c7) rfl).trans HEk.out⟩
      have HN8 : Aside0 (∀ i, q + 1 ≤ i → i < N → ((hs2.set q hv).getD i hv0).c = .slice none 0 0) := ⟨fun i h1 h2 => by rw [set_getD hs2 q i hv (by omega)]; exact HNk.out i h1 h2⟩
      have HQ8 : Aside0 (CodeQ (w7.setCell ⟨bF, q * 4 + 3, none⟩ (.slice A7 (k3 + 1) c7)) wp.heap.size (hs2.set q hv) s.2.2 q (.slice A7 (k3 + 1) c7)) := ⟨CodeQ.put (CodeQ.set FQ.out hds (by decide)) q (Nat.le_refl q)⟩
      have HX8 : Aside0 (k50.R 50 (w7.setCell ⟨bF, q * 4 + 3, none⟩ (.slice A7 (k3 + 1) c7)) wp.heap.size (fun k => wp.heap.size ≤ k) (.slice A7 (k3 + 1) c7) (t.2.2 ++ [x.1])) := ⟨Kd.R_set FR.out hds (by decide) _ _⟩
      have HS8 : Aside0 (kI.R 3 (w7.setCell ⟨bF, q * 4 + 3, none⟩ (.slice A7 (k3 + 1) c7)) wp.heap.size (fun k => wp.heap.size ≤ k) (.slice (some ⟨bS, 0, none⟩) N cS) (szOf bs N)) := ⟨Kd.R_set FS.out hds (by decide) _ _⟩
      have HWp : Aside0 (w.heap.size ≤ wp.heap.size) := ⟨by have := G15.out; have := HGp.out; omega⟩
      have HZ8 : Aside0 (Below w.heap.size w (w7.setCell ⟨bF, q * 4 + 3, none⟩ (.slice A7 (k3 + 1) c7))) := ⟨below_set (HZm.out.trans (FB.out.mono HWp.out)) (Nat.le_trans HWp.out HbFp.out)⟩
      have HK8 : Aside0 (KeepBut wp (w7.setCell ⟨bF, q * 4 + 3, none⟩ (.slice A7 (k3 + 1) c7)) g none) := ⟨⟨by have h1 := HWm.out; have h2 := FB.out.size; simpa [World.setCell] using Nat.le_trans h1 h2, fun i hi hg hr => (Below.heap_setCell w7 ⟨bF, q * 4 + 3, none⟩ _ i (fun e => by have := HbFp.out; have e2 : i = bF := e; omega)).trans ((FB.out.block i hi).trans ((KeepBut.trans HKk.out (show KeepBut wr wm g none from HKm2.out) (.inl rfl)).2 i hi hg hr))⟩⟩
      have HI8 : Aside0 ((t.2.2 ++ [x.1]).length = k3 + 1 ∧ x.2.1 ≤ bs.length ∧ 0 ≤ x.2.2 ∧ x.2.2 < 1048576) := ⟨by rw [List.length_append, HIk.out.1]; rfl, HIo.out x rfl⟩
      have HR8 : Aside0 (runE (codeStep G fs R V (M : Int) bs) (s.1, s.2.1, []) (k3 + 1) = .ok (x.2.1, x.2.2, t.2.2 ++ [x.1])) := ⟨by rw [HStk.out, HCs.out]⟩
      obtain ⟨w8, hw8⟩ : ∃ w8, w8 = (w7.setCell ⟨bF, q * 4 + 3, none⟩ (.slice A7 (k3 + 1) c7)) := ⟨_, rfl⟩
      rw [← hw8] at HA8 HF8 HQ8 HX8 HS8 HZ8 HK8 ⊢
      have hwp2 := HW2.out
      clear hw8 FA FF FS FQ FR FB hds hhv HAk HFk HCk HEk HNk HQk HXk HSk HZk HKk
      go_wp2_with fail
      go_roundw
      case rel => exact ⟨k3 + 1, (x.2.1, x.2.2, t.2.2 ++ [x.1]), .slice A7 (k3 + 1) c7, hs2.set q hv, a3, Nat.succ_le_of_lt HLt3.out, by go_num, HR8, HA8, HF8, HC8, HE8, HN8, HQ8, HX8, HS8, HI8, HZ8, HK8⟩
      case measure => rw [hwp2]; exact Nat.sub_lt_sub_left (show k3 < M from HLt3.out) (show k3 < k3 + 1 from Nat.lt_succ_self k3)
  have hwp : wrap64 ((q : Int) + 1) = (q : Int) + 1 := wrap_in (by have := HNr.out; omega) (by have := HNr.out; omega)
  have q0 : (0 : Int) ≤ (q : Int) := Int.natCast_nonneg q
  have q1 : (q : Int) < (N : Int) := by omega
  obtain ⟨⟨l0, l1⟩, hp9, _⟩ := heads_run HBy.out q l HRn.out
  obtain ⟨p, hp⟩ : ∃ p, p = 9 + 5 * q := ⟨_, rfl⟩
  have HPp := Aside0.mk hp
  have HHd := Aside0.mk (head_rd g G AF cF B l a A c bs p w wp wr (hsOf bs q) HZq.out G15.out HGp.out HKq.out (by rw [hsOf_len, hp]; exact HAq.out) HBs.out (by rw [hp]; exact hp9 L9.out) HCb.out HBy.out l0 l1 (by rw [hsOf_len]; exact HFq.out) (by rw [hsOf_len]; have := HNr.out; omega))
  clear hp hp9 l0 l1
  go_wp2_with fail
  refine HHd.out.mono ?_
  rintro e w' ⟨he, hok, hZ, hK, hT⟩
  have HZr := Aside0.mk hZ
  have HKr := Aside0.mk hK
  have HSr : Aside0 (kI.R 3 w' wp.heap.size (fun k => wp.heap.size ≤ k) u8 (szOf bs q)) := ⟨hT.row HSq.out (by decide) (fun k hk => by have := HGp.out; omega)⟩
  have HStp : Aside0 (runE (headStep bs) 0 (q + 1) = if p + 5 ≤ bs.length then (if hvE bs p l = 0 then .ok (l + (hvOf bs p).V) else .error (hvE bs p l, ((p : Nat) : Int))) else .error (11, bs.length)) := ⟨by rw [runE_next HRn.out, HPp.out]; rfl⟩
  clear hZ hK hT HHd HAq HFq HSq HZq HKq
  obtain ⟨w4, rfl⟩ : ∃ w4, w4 = w' := ⟨_, rfl⟩
  by_cases h5 : p + 5 ≤ bs.length
  rotate_left
  ·rw [if_neg h5] at he
   subst he
   have HE : Aside0 (decR bs = .error (11, bs.length)) := ⟨by have hr := runE_err (show runE (headStep bs) 0 (q + 1) = .error (11, bs.length) from by rw [HStp.out, if_neg h5]) N (by omega); unfold decR; rw [if_pos HMg.out, if_pos (show 6 ≤ bs.length by have := L6.out; omega), if_pos (show 7 ≤ bs.length by have := L7.out; omega), ← HGv.out, if_pos H1.out, if_pos (show 9 ≤ bs.length by have := L9.out; omega), HCn.out, if_pos H2.out, Int.toNat_natCast, hr]⟩
   have Q2 := Aside0.mk (HKr.out.blk P2.out N2.out (by simp))
   have Q3 := Aside0.mk (HKr.out.blk P3.out N3.out (by simp))
   have Q4 := Aside0.mk (HKr.out.blk P4.out N4.out (by simp))
   have QZ := Aside0.mk (HZr.out)
   go_wp2_with fail
   refine leaves_cons (f := 41) (args := #[.pointer (some ⟨g2, 0, none⟩), .pointer (some ⟨g3, 0, none⟩), .pointer (some ⟨g4, 0, none⟩)]) (by simp) (by simp [go_sem]) ?_
   refine (catchD_stop g2 g3 g4 0 0 (11) (bs.length) (.slice none 0 0) w4 Q2.out Q3.out ⟨0, Q4.out⟩).mono ?_
   rintro e u' w'' ⟨rfl, rfl, hst⟩
   have r0 : w''.cell? ⟨g2, 0, none⟩ = some (.int .i64 0) := (blk_cell hst.1 0).trans rfl
   have r1 : w''.cell? ⟨g2, 1, none⟩ = some (.slice none 0 0) := (blk_cell hst.1 1).trans rfl
   have r2 : w''.cell? ⟨g3, 0, none⟩ = some (.int .i64 (11)) := (blk_cell hst.2.1 0).trans rfl
   have r3 : w''.cell? ⟨g4, 0, none⟩ = some (.int .i64 (bs.length)) := (blk_cell hst.2.2.1 0).trans rfl
   have HPo : Aside0 (DecPost w bs (.returned (.tuple #[.agg #[.int .i64 0, .slice none 0 0], .int .i64 (11), .int .i64 (bs.length)])) w'') := ⟨by unfold DecPost decOut; rw [HE.out]; exact ⟨.slice none 0 0, rfl, Kd.R_nil _ _ _ _ _, hst.2.2.2 w QZ.out G2.out G3.out G4.out⟩⟩
   clear hst Q2 Q3 Q4 QZ HE
   simp [Leaves, settle, results, Tryd.results24, go_sem, r0, r1, r2, r3]
   exact HPo.out
  rw [if_pos h5] at he
  have H5 := Aside0.mk h5
  clear h5
  obtain ⟨er, her⟩ : ∃ er, er = hvE bs p l := ⟨_, rfl⟩
  have HEr := Aside0.mk her
  rw [← her] at he hok HStp
  clear her
  by_cases h1 : er = 0
  rotate_left
  ·rw [if_neg h1] at he
   subst he
   have HE : Aside0 (decR bs = .error (er, (p : Int))) := ⟨by have hr := runE_err (show runE (headStep bs) 0 (q + 1) = .error (er, ((p : Nat) : Int)) from by rw [HStp.out, if_pos H5.out, if_neg h1]) N (by omega); unfold decR; rw [if_pos HMg.out, if_pos (show 6 ≤ bs.length by have := L6.out; omega), if_pos (show 7 ≤ bs.length by have := L7.out; omega), ← HGv.out, if_pos H1.out, if_pos (show 9 ≤ bs.length by have := L9.out; omega), HCn.out, if_pos H2.out, Int.toNat_natCast, hr]⟩
   have Q2 := Aside0.mk (HKr.out.blk P2.out N2.out (by simp))
   have Q3 := Aside0.mk (HKr.out.blk P3.out N3.out (by simp))
   have Q4 := Aside0.mk (HKr.out.blk P4.out N4.out (by simp))
   have QZ := Aside0.mk (HZr.out)
   go_wp2_with fail
   refine leaves_cons (f := 41) (args := #[.pointer (some ⟨g2, 0, none⟩), .pointer (some ⟨g3, 0, none⟩), .pointer (some ⟨g4, 0, none⟩)]) (by simp) (by simp [go_sem]) ?_
   refine (catchD_stop g2 g3 g4 0 0 (er) ((p : Int)) (.slice none 0 0) w4 Q2.out Q3.out ⟨0, Q4.out⟩).mono ?_
   rintro e u' w'' ⟨rfl, rfl, hst⟩
   have r0 : w''.cell? ⟨g2, 0, none⟩ = some (.int .i64 0) := (blk_cell hst.1 0).trans rfl
   have r1 : w''.cell? ⟨g2, 1, none⟩ = some (.slice none 0 0) := (blk_cell hst.1 1).trans rfl
   have r2 : w''.cell? ⟨g3, 0, none⟩ = some (.int .i64 (er)) := (blk_cell hst.2.1 0).trans rfl
   have r3 : w''.cell? ⟨g4, 0, none⟩ = some (.int .i64 ((p : Int))) := (blk_cell hst.2.2.1 0).trans rfl
   have HPo : Aside0 (DecPost w bs (.returned (.tuple #[.agg #[.int .i64 0, .slice none 0 0], .int .i64 (er), .int .i64 ((p : Int))])) w'') := ⟨by unfold DecPost decOut; rw [HE.out]; exact ⟨.slice none 0 0, rfl, Kd.R_nil _ _ _ _ _, hst.2.2.2 w QZ.out G2.out G3.out G4.out⟩⟩
   clear hst Q2 Q3 Q4 QZ HE
   simp [Leaves, settle, results, Tryd.results24, go_sem, r0, r1, r2, r3]
   exact HPo.out
  rw [if_pos h1] at he
  subst he
  obtain ⟨A2, c2, hA2, hF2⟩ := hok H5.out h1
  rw [hsOf_len] at hA2 hF2
  have HRn2 : Aside0 (runE (headStep bs) 0 (q + 1) = .ok (l + (hvOf bs p).V)) := ⟨by rw [HStp.out, if_pos H5.out, if_pos h1]⟩
  have HA2 := Aside0.mk hA2
  have HF2 : Aside0 (kH.R 46 w4 wp.heap.size (fun k => wp.heap.size ≤ k) (.slice A2 (q + 1) c2) (hsOf bs (q + 1))) := ⟨by rw [hsOf_next, ← HPp.out]; exact hF2⟩
  clear hA2 hF2 hok HStp h1 HEr
  obtain ⟨m, hm2⟩ : ∃ m, m = hvN bs p := ⟨_, rfl⟩
  have HMv := Aside0.mk hm2
  rw [← hm2]
  clear hm2
  go_wp2_with ((with_reducible refine gate_builtin (b := .append) (xs := #[.tmp 64, .tmp 67]) rfl ?_); at_builtin; refine Kd.R_append kI (w0 := w4) wp.heap.size rfl (.tmp 64) (.tmp 67) 48 3 (.int .i64 0) 8 rfl Tryd.underlying48 info3 rfl (by decide) (by omega) u8 (szOf bs q) m [.int .i64 m] (fun k => wp.heap.size ≤ k) (fun _ => False) rfl rfl ?aP (fun _ hk => hk.elim) ?aF ?aO ?aB ?aS ?aL ?_; (case aP => exact rfl); (case aF => exact fun k hk => Nat.le_trans HKr.out.1 hk); (case aO => exact HSr.out); (case aB => exact Below.refl _ _); (case aS => exact HKr.out.1); (case aL => rw [szOf_len]; have := HNr.out; omega); intro v1 wv ho hb hgr hat; have FA := Aside0.mk (blk_grown (show w4.heap[g]? = _ from HA2.out) hgr (Kd.R_ne HSr.out (show w4.heap[g]? = _ from HA2.out) (by decide))); have FT := Aside0.mk (KeepT.grown (ts := [3]) (g := g) HSr.out (by simp) hgr); have FR := Aside0.mk ho; have FB := Aside0.mk hb; clear ho hb hgr hat)
  have HWp : Aside0 (w.heap.size ≤ wp.heap.size) := ⟨by have := G15.out; have := HGp.out; omega⟩
  have HA3 : Aside0 (AskW wv g 80 (rdR A bs.length c ((9 + 5 * (q + 1) : Nat) : Int)) G A2 (q + 1) c2 B (l + (hvOf bs p).V) (p : Int)) := ⟨by rw [show 9 + 5 * (q + 1) = p + 5 from by have := HPp.out; omega]; exact FA.out⟩
  have HF3 : Aside0 (kH.R 46 wv wp.heap.size (fun k => wp.heap.size ≤ k) (.slice A2 (q + 1) c2) (hsOf bs (q + 1))) := ⟨FT.out.row HF2.out (by decide) (fun k hk => by have := HGp.out; omega)⟩
  have HS3 : Aside0 (kI.R 3 wv wp.heap.size (fun k => wp.heap.size ≤ k) v1 (szOf bs (q + 1))) := ⟨by rw [szOf_next, ← HPp.out, ← HMv.out]; exact FR.out⟩
  have HZ3 : Aside0 (Below w.heap.size w wv) := ⟨HZr.out.trans (FB.out.mono HWp.out)⟩
  have HK3 : Aside0 (KeepBut wp wv g none) := ⟨⟨Nat.le_trans HKr.out.1 FB.out.size, fun i hi hg hr => (FB.out.block i hi).trans (HKr.out.2 i hi hg hr)⟩⟩
  clear HA2 HF2 HSr HZr HKr FA FT FR FB
  go_roundw
  case rel => exact ⟨q + 1, l + (hvOf bs p).V, A2, c2, (p : Int), by omega, by go_num, HRn2, HA3, HF3, HS3, HZ3, HK3⟩
  case measure => rw [hwp]; exact Nat.sub_lt_sub_left (show q < N from hlt) (show q < q + 1 from Nat.lt_succ_self q)
end Go.Proofs.YteonppgdmhakoaaDoor.PC
namespace Go.Proofs.YteonppgdmhakoaaDoor.PC
open Go.RowKit Go.Proofs.YteonppgdmhakoaaDoorW.PrintWords Go.Proofs.YteonppgdmhakoaaDoorW.PrintLast Go.Proofs.YteonppgdmhakoaaDoorW.PrintMore
set_option linter.unusedVariables false
set_option linter.unusedSimpArgs false
def code_Encode.f (a0_0 : Int) (l0_1 : List S46) : Option (List Int × Int) := some (encOut a0_0 l0_1, firstE a0_0 l0_1)
theorem code_Encode.calls (a0_0 : Int) (A0_1 : Option Addr) (c0_1 : Nat) (l0_1 : List (S46)) (r1 : List Int) (r2 : Int) (w : World) (hr0_1 : Kd.C k46 w A0_1 l0_1.length l0_1) (hc0_1 : l0_1.length ≤ c0_1) (h : code_Encode.f a0_0 l0_1 = some (r1, r2)) (hT : Tab w) :
  Calls Tryd.prog 20 #[.agg #[.int .i64 a0_0, .slice A0_1 l0_1.length c0_1]] w fun e w' => ∃ v1_ : Value, e = .returned (.tuple #[v1_, .int .i64 r2]) ∧ Kd.R (Kd.int .u8) 5 w' w.heap.size (fun _ => True) v1_ r1 ∧ Below w.heap.size w w' := by
 unfold code_Encode.f at h
 injection h with h
 injection h with h1 h2
 subst h1 h2
 exact enc_any a0_0 A0_1 c0_1 l0_1 w hr0_1 hT
def code_Decode.f (l0 : List Int) : Option (Int × List S46 × Int × Int) := if (l0.all fun x => decide (0 ≤ x ∧ x ≤ 255)) = true then some (decOut l0) else none
theorem code_Decode.calls (A0 : Option Addr) (c0 : Nat) (l0 : List Int) (r1 : Int) (r2 : List (S46)) (r3 r4 : Int) (w : World) (hr0 : Kd.C (Kd.int .u8) w A0 l0.length l0) (hc0 : l0.length ≤ c0) (h : code_Decode.f l0 = some (r1, r2, r3, r4)) (hT : Tab w) :
  Calls Tryd.prog 24 #[.slice A0 l0.length c0] w fun e w' => ∃ v1_ : Value, e = .returned (.tuple #[.agg #[.int .i64 r1, v1_], .int .i64 r3, .int .i64 r4]) ∧ Kd.R k46 46 w' w.heap.size (fun _ => True) v1_ r2 ∧ Below w.heap.size w w' := by
 unfold code_Decode.f at h
 by_cases hl : (l0.all fun x => decide (0 ≤ x ∧ x ≤ 255)) = true
 ·rw [if_pos hl] at h
  injection h with h
  refine (dec_any A0 c0 l0 w hr0 hc0 (fun x hx => by rw [List.all_eq_true] at hl; simpa using hl x hx) hT).mono ?_
  rintro e w' ⟨v, he, hR, hB⟩
  rw [h] at he hR
  exact ⟨v, he, Kd.R_mono hR (fun _ _ => trivial), hB⟩
 ·rw [if_neg hl] at h
  cases h
end Go.Proofs.YteonppgdmhakoaaDoor.PC
namespace Go.Proofs.YteonppgdmhakoaaDoor.PC
open Go.RowKit Go.Proofs.YteonppgdmhakoaaDoorW.PrintWords Go.Proofs.YteonppgdmhakoaaDoorW.PrintLast Go.Proofs.YteonppgdmhakoaaDoorW.PrintMore
attribute [local go_sem] max2_int min2_int max_two min_two max_three min_three max_four min_four
set_option linter.unusedVariables false
set_option linter.unusedSimpArgs false
def fuguelaw01_works.f (k : Nat)  : Option (Bool) := (fuguelaw01_least.f).bind fun bt132 => ((code_Encode.f bt132.1 bt132.2).bind fun bt136 => ((code_Decode.f bt136.1).bind fun bt140 => ((fuguelaw01_least.f).bind fun bt147 => ((fugueref00_EqProgram.f k bt140.1 bt140.2.1 bt147.1 bt147.2).bind fun t151 => ((fuguelaw01_least.f).bind fun bt152 => ((code_Check.f bt152.1 bt152.2).bind fun t156 => (if t156 = 0 then (if bt136.2 = 0 then (if bt140.2.2.1 = 0 then (if bt140.2.2.2 = 0 then (if (bt136.1.length : Int) = 16 then (if t151 = true then ((fuguelaw01_least.f).bind fun bt157 => ((code_Locations.f k bt157.1 bt157.2).bind fun t161 => (some (t161 == 1)))) else (some false)) else (some false)) else (some false)) else (some false)) else (some false)) else (some false))))))))
theorem fuguelaw01_works.mono : ∀ k, LeO (fuguelaw01_works.f k ) (fuguelaw01_works.f (k + 1) ) := by
 intro  k
 unfold fuguelaw01_works.f
 repeat' first
   | (with_reducible exact code_Locations.mono _ _ _)
   | (with_reducible exact fugueref00_EqProgram.mono _ _ _ _ _)
   | (with_reducible exact LeO.refl _)
   | (with_reducible exact LeO.none _)
   | (with_reducible refine LeO.ite ?_ ?_)
   | (with_reducible refine LeO.bind ?_ (fun _ => ?_))
   | exact code_Locations.mono _ _ _
   | exact fugueref00_EqProgram.mono _ _ _ _ _
   | exact LeO.none _
   | refine LeO.ite ?_ ?_
   | refine LeO.bind ?_ (fun _ => ?_)
set_option maxHeartbeats 8000000 in
set_option maxRecDepth 100000 in
theorem works_yes (k : Nat)  (r : Bool) (w : World) (h : fuguelaw01_works.f k  = some r) (hr_ : r = true) (hT_ : Tab w) :
  Calls Tryd.prog 10 #[] w fun e w' => e = .returned (.bool r) ∧ Below w.heap.size w w' := by
 have hu24 := Tryd.underlying24
 have HB := Aside0.mk (Below.refl w.heap.size w)
 have HTab := Aside0.mk hT_
 have H : ((fuguelaw01_least.f).bind fun bt132 => ((code_Encode.f bt132.1 bt132.2).bind fun bt136 => ((code_Decode.f bt136.1).bind fun bt140 => ((fuguelaw01_least.f).bind fun bt147 => ((fugueref00_EqProgram.f k bt140.1 bt140.2.1 bt147.1 bt147.2).bind fun t151 => ((fuguelaw01_least.f).bind fun bt152 => ((code_Check.f bt152.1 bt152.2).bind fun t156 => (if t156 = 0 then (if bt136.2 = 0 then (if bt140.2.2.1 = 0 then (if bt140.2.2.2 = 0 then (if (bt136.1.length : Int) = 16 then (if t151 = true then ((fuguelaw01_least.f).bind fun bt157 => ((code_Locations.f k bt157.1 bt157.2).bind fun t161 => (some (t161 == 1)))) else (some false)) else (some false)) else (some false)) else (some false)) else (some false)) else (some false))))))))) = some r := h
 clear h
 replace H := Option.bind_eq_some_iff.mp H
 obtain ⟨⟨t132, t133⟩, A10, H⟩ := H
 replace H : ((code_Encode.f t132 t133).bind fun bt136 => ((code_Decode.f bt136.1).bind fun bt140 => ((fuguelaw01_least.f).bind fun bt147 => ((fugueref00_EqProgram.f k bt140.1 bt140.2.1 bt147.1 bt147.2).bind fun t151 => ((fuguelaw01_least.f).bind fun bt152 => ((code_Check.f bt152.1 bt152.2).bind fun t156 => (if t156 = 0 then (if bt136.2 = 0 then (if bt140.2.2.1 = 0 then (if bt140.2.2.2 = 0 then (if (bt136.1.length : Int) = 16 then (if t151 = true then ((fuguelaw01_least.f).bind fun bt157 => ((code_Locations.f k bt157.1 bt157.2).bind fun t161 => (some (t161 == 1)))) else (some false)) else (some false)) else (some false)) else (some false)) else (some false)) else (some false)))))))) = some r := H
 have A1 := Aside0.mk A10
 clear A10
 replace H := Option.bind_eq_some_iff.mp H
 obtain ⟨⟨t136, t139⟩, A20, H⟩ := H
 replace H : ((code_Decode.f t136).bind fun bt140 => ((fuguelaw01_least.f).bind fun bt147 => ((fugueref00_EqProgram.f k bt140.1 bt140.2.1 bt147.1 bt147.2).bind fun t151 => ((fuguelaw01_least.f).bind fun bt152 => ((code_Check.f bt152.1 bt152.2).bind fun t156 => (if t156 = 0 then (if t139 = 0 then (if bt140.2.2.1 = 0 then (if bt140.2.2.2 = 0 then (if (t136.length : Int) = 16 then (if t151 = true then ((fuguelaw01_least.f).bind fun bt157 => ((code_Locations.f k bt157.1 bt157.2).bind fun t161 => (some (t161 == 1)))) else (some false)) else (some false)) else (some false)) else (some false)) else (some false)) else (some false))))))) = some r := H
 have A2 := Aside0.mk A20
 clear A20
 replace H := Option.bind_eq_some_iff.mp H
 obtain ⟨⟨t140, t141, t144, t145⟩, A30, H⟩ := H
 replace H : ((fuguelaw01_least.f).bind fun bt147 => ((fugueref00_EqProgram.f k t140 t141 bt147.1 bt147.2).bind fun t151 => ((fuguelaw01_least.f).bind fun bt152 => ((code_Check.f bt152.1 bt152.2).bind fun t156 => (if t156 = 0 then (if t139 = 0 then (if t144 = 0 then (if t145 = 0 then (if (t136.length : Int) = 16 then (if t151 = true then ((fuguelaw01_least.f).bind fun bt157 => ((code_Locations.f k bt157.1 bt157.2).bind fun t161 => (some (t161 == 1)))) else (some false)) else (some false)) else (some false)) else (some false)) else (some false)) else (some false)))))) = some r := H
 have A3 := Aside0.mk A30
 clear A30
 replace H := Option.bind_eq_some_iff.mp H
 obtain ⟨⟨t147, t148⟩, A40, H⟩ := H
 replace H : ((fugueref00_EqProgram.f k t140 t141 t147 t148).bind fun t151 => ((fuguelaw01_least.f).bind fun bt152 => ((code_Check.f bt152.1 bt152.2).bind fun t156 => (if t156 = 0 then (if t139 = 0 then (if t144 = 0 then (if t145 = 0 then (if (t136.length : Int) = 16 then (if t151 = true then ((fuguelaw01_least.f).bind fun bt157 => ((code_Locations.f k bt157.1 bt157.2).bind fun t161 => (some (t161 == 1)))) else (some false)) else (some false)) else (some false)) else (some false)) else (some false)) else (some false))))) = some r := H
 have A4 := Aside0.mk A40
 clear A40
 replace H := Option.bind_eq_some_iff.mp H
 obtain ⟨t151, A50, H⟩ := H
 replace H : ((fuguelaw01_least.f).bind fun bt152 => ((code_Check.f bt152.1 bt152.2).bind fun t156 => (if t156 = 0 then (if t139 = 0 then (if t144 = 0 then (if t145 = 0 then (if (t136.length : Int) = 16 then (if t151 = true then ((fuguelaw01_least.f).bind fun bt157 => ((code_Locations.f k bt157.1 bt157.2).bind fun t161 => (some (t161 == 1)))) else (some false)) else (some false)) else (some false)) else (some false)) else (some false)) else (some false)))) = some r := H
 have A5 := Aside0.mk A50
 clear A50
 replace H := Option.bind_eq_some_iff.mp H
 obtain ⟨⟨t152, t153⟩, A60, H⟩ := H
 replace H : ((code_Check.f t152 t153).bind fun t156 => (if t156 = 0 then (if t139 = 0 then (if t144 = 0 then (if t145 = 0 then (if (t136.length : Int) = 16 then (if t151 = true then ((fuguelaw01_least.f).bind fun bt157 => ((code_Locations.f k bt157.1 bt157.2).bind fun t161 => (some (t161 == 1)))) else (some false)) else (some false)) else (some false)) else (some false)) else (some false)) else (some false))) = some r := H
 have A6 := Aside0.mk A60
 clear A60
 replace H := Option.bind_eq_some_iff.mp H
 obtain ⟨t156, A70, H⟩ := H
 replace H : (if t156 = 0 then (if t139 = 0 then (if t144 = 0 then (if t145 = 0 then (if (t136.length : Int) = 16 then (if t151 = true then ((fuguelaw01_least.f).bind fun bt157 => ((code_Locations.f k bt157.1 bt157.2).bind fun t161 => (some (t161 == 1)))) else (some false)) else (some false)) else (some false)) else (some false)) else (some false)) else (some false)) = some r := H
 have A7 := Aside0.mk A70
 clear A70
 by_cases c8 : t156 = 0
 ·rw [if_pos c8] at H
  have c8b0 : (t156 == 0) = true := beq_iff_eq.mpr c8
  have c8b1 : (t156 != 0) = false := bne_eq_false_iff_eq.mpr c8
  clear c8
  by_cases c9 : t139 = 0
  ·rw [if_pos c9] at H
   have c9b0 : (t139 == 0) = true := beq_iff_eq.mpr c9
   have c9b1 : (t139 != 0) = false := bne_eq_false_iff_eq.mpr c9
   clear c9
   by_cases c10 : t144 = 0
   ·rw [if_pos c10] at H
    have c10b0 : (t144 == 0) = true := beq_iff_eq.mpr c10
    have c10b1 : (t144 != 0) = false := bne_eq_false_iff_eq.mpr c10
    clear c10
    by_cases c11 : t145 = 0
    ·rw [if_pos c11] at H
     have c11b0 : (t145 == 0) = true := beq_iff_eq.mpr c11
     have c11b1 : (t145 != 0) = false := bne_eq_false_iff_eq.mpr c11
     clear c11
     by_cases c12 : (t136.length : Int) = 16
     ·rw [if_pos c12] at H
      have c12b0 : ((t136.length : Int) == 16) = true := beq_iff_eq.mpr c12
      have c12b1 : ((t136.length : Int) != 16) = false := bne_eq_false_iff_eq.mpr c12
      clear c12
      by_cases c13 : t151 = true
      ·subst c13
       have H1 : ((fuguelaw01_least.f).bind fun bt157 => ((code_Locations.f k bt157.1 bt157.2).bind fun t161 => (some (t161 == 1)))) = some r := by rw [if_pos rfl] at H; exact H
       clear H
       have H := H1
       clear H1
       replace H := Option.bind_eq_some_iff.mp H
       obtain ⟨⟨t157, t158⟩, A140, H⟩ := H
       replace H : ((code_Locations.f k t157 t158).bind fun t161 => (some (t161 == 1))) = some r := H
       have A14 := Aside0.mk A140
       clear A140
       replace H := Option.bind_eq_some_iff.mp H
       obtain ⟨t161, A150, H⟩ := H
       replace H : (some (t161 == 1)) = some r := H
       have A15 := Aside0.mk A150
       clear A150
       obtain rfl := Option.some.inj H
       go_enter Tryd.func10, Tryd.ntmps10
       try go_wp2_with (first | ((with_reducible refine gate_callee (f := 29) rfl ?_); refine goesL_ (some 8) rfl rfl Tryd.func29 (by kernel_rfl) rfl #[] rfl (by (try simp only [List.map_toArray, List.map_cons, List.map_nil]); first | done | rfl | (simp only [List.length_drop, List.length_take]; rfl)) ?_; (with_reducible refine (fuguelaw01_least.calls  t132 t133 _ A1.out).mono ?_); rintro e w16 ⟨v134, rfl, ho0, hb⟩; refine ⟨_, rfl, ?_⟩; have n0_ := Aside0.mk (Kd.N_lower (Kd.N_mono (ok' := fun k_ => True) ho0 (fun k_ hk_ => trivial)) (below_size (by repeat (first | (with_reducible first | exact HB.out | apply below_alloc | apply pw_below_drewN | apply below_drew1) | exact HB.out)))); have n1_ := Aside0.mk (below_step (by repeat (first | (with_reducible first | exact HB.out | apply below_alloc | apply pw_below_drewN | apply below_drew1) | exact HB.out)) hb); clear HB; have HO135 := n0_; have HB := n1_; clear n0_ n1_; (try clear hb); (try clear hb2); (try clear hk); (try clear hi); (try clear ho0); obtain ⟨Ao17, co17, eo17⟩ := Kd.N_slice HO135.out; subst eo17) | ((with_reducible refine gate_callee (f := 20) rfl ?_); refine goesL_ (some 9) rfl rfl Tryd.func20 (by kernel_rfl) rfl #[.agg #[.int .i64 t132, .slice Ao17 t133.length co17]] rfl (by (try simp only [List.map_toArray, List.map_cons, List.map_nil]); first | done | rfl | (simp only [List.length_drop, List.length_take]; rfl)) ?_; (with_reducible refine (code_Encode.calls t132 _ _ t133 t136 t139 _ ?side1 ?side2 A2.out ?tab).mono ?_); (case tab => exact Tab.below HTab.out (by repeat (first | (with_reducible first | exact HB.out | apply below_alloc | apply pw_below_drewN | apply below_drew1) | exact HB.out))); (case side1 => repeat (first | exact (Kd.N_reads' HO135.out).2.2 | (with_reducible refine Kd.C_alloc ?_ _) | (with_reducible refine Kd.C_drewN ?_ _) | (with_reducible refine Kd.C_drew ?_))); (case side2 => exact (Kd.N_reads' HO135.out).2.1); rintro e w18 ⟨v137, rfl, ho0, hb⟩; refine ⟨_, rfl, ?_⟩; have n0_ := Aside0.mk (Kd.N_elder' (by (with_reducible repeat (first | apply Kd.N_alloc | apply Kd.N_drewN | apply Kd.N_drew)); exact HO135.out) (Kd.R_base ho0) hb); have n1_ := Aside0.mk (Kd.R_lower ho0 (below_size (by repeat (first | (with_reducible first | exact HB.out | apply below_alloc | apply pw_below_drewN | apply below_drew1) | exact HB.out)))); have n2_ := Aside0.mk (below_step (by repeat (first | (with_reducible first | exact HB.out | apply below_alloc | apply pw_below_drewN | apply below_drew1) | exact HB.out)) hb); clear HO135; clear HB; have HO135 := n0_; have HO138 := n1_; have HB := n2_; clear n0_ n1_ n2_; (try clear hb); (try clear hb2); (try clear hk); (try clear hi); (try clear ho0); obtain ⟨Ao19, co19, eo19⟩ := Kd.R_slice HO138.out; subst eo19) | ((with_reducible refine gate_callee (f := 24) rfl ?_); refine goesL_ (some 14) rfl rfl Tryd.func24 (by kernel_rfl) rfl #[.slice Ao19 t136.length co19] rfl (by (try simp only [List.map_toArray, List.map_cons, List.map_nil]); first | done | rfl | (simp only [List.length_drop, List.length_take]; rfl)) ?_; (with_reducible refine (code_Decode.calls _ _ t136 t140 t141 t144 t145 _ ?side1 ?side2 A3.out ?tab).mono ?_); (case tab => exact Tab.below HTab.out (by repeat (first | (with_reducible first | exact HB.out | apply below_alloc | apply pw_below_drewN | apply below_drew1) | exact HB.out))); (case side1 => repeat (first | exact (Kd.R_reads' HO138.out).2.2 | (with_reducible refine Kd.C_alloc ?_ _) | (with_reducible refine Kd.C_drewN ?_ _) | (with_reducible refine Kd.C_drew ?_))); (case side2 => exact (Kd.R_reads' HO138.out).2.1); rintro e w20 ⟨v142, rfl, ho0, hb⟩; refine ⟨_, rfl, ?_⟩; have n0_ := Aside0.mk (Kd.N_elder' (by (with_reducible repeat (first | apply Kd.N_alloc | apply Kd.N_drewN | apply Kd.N_drew)); exact HO135.out) (Kd.R_base ho0) hb); have n1_ := Aside0.mk (Kd.R_below (by (with_reducible repeat (first | apply Kd.R_alloc | apply Kd.R_drewN | apply Kd.R_drew)); exact HO138.out) hb); have n2_ := Aside0.mk (Kd.N_lower (Kd.N_mono (ok' := fun k_ => some k_ ≠ (.slice Ao17 t133.length co17 : Value).ownBlock ∧ some k_ ≠ (.slice Ao19 t136.length co19 : Value).ownBlock) (Kd.R_N (Kd.R_bound ho0)) (fun k_ hk_ => ⟨(Kd.fresh' (Kd.N_lt (by (with_reducible repeat (first | apply Kd.N_alloc | apply Kd.N_drewN | apply Kd.N_drew)); exact HO135.out)) k_ hk_.2.1), (Kd.fresh' (Kd.R_lt (by (with_reducible repeat (first | apply Kd.R_alloc | apply Kd.R_drewN | apply Kd.R_drew)); exact HO138.out)) k_ hk_.2.1)⟩)) (below_size (by repeat (first | (with_reducible first | exact HB.out | apply below_alloc | apply pw_below_drewN | apply below_drew1) | exact HB.out)))); have n3_ := Aside0.mk (below_step (by repeat (first | (with_reducible first | exact HB.out | apply below_alloc | apply pw_below_drewN | apply below_drew1) | exact HB.out)) hb); clear HO135; clear HO138; clear HB; have HO135 := n0_; have HO138 := n1_; have HO143 := n2_; have HB := n3_; clear n0_ n1_ n2_ n3_; (try clear hb); (try clear hb2); (try clear hk); (try clear hi); (try clear ho0)) | ((with_reducible refine gate_dst (N := 3) rfl ?_); (try (refine gate_guard (by rfl) ?_; dsimp only)); refine box_event ?hg (N := 3) ?hd (cs := #[.int .i64 0, .slice none 0 0]) (t := 24) ?hr ?_; (case hd => rfl); (case hg => rfl); (case hr => first | (go_simp; done) | (go_simp; rfl)); intro gb146 hg w21 hbox hb; have n0_ := Aside0.mk (Kd.N_below (Kd.N_elderB (by (with_reducible repeat (first | apply Kd.N_alloc | apply Kd.N_drewN | apply Kd.N_drew)); exact HO135.out) gb146 (Nat.le_of_eq hg.symm)) hb); have n1_ := Aside0.mk (Kd.R_below (by (with_reducible repeat (first | apply Kd.R_alloc | apply Kd.R_drewN | apply Kd.R_drew)); exact HO138.out) hb); have n2_ := Aside0.mk (Kd.N_below (Kd.N_elderB (by (with_reducible repeat (first | apply Kd.N_alloc | apply Kd.N_drewN | apply Kd.N_drew)); exact HO143.out) gb146 (Nat.le_of_eq hg.symm)) hb); have n3_ := Aside0.mk (below_step (by repeat (first | (with_reducible first | exact HB.out | apply below_alloc | apply pw_below_drewN | apply below_drew1) | exact HB.out)) hb); have n4_ := Aside0.mk (hbox); have n5_ := Aside0.mk ((by rw [hg]; exact (below_size (by repeat (first | (with_reducible first | exact HB.out | apply below_alloc | apply pw_below_drewN | apply below_drew1) | exact HB.out))) : w.heap.size ≤ gb146)); have n6_ := Aside0.mk ((by rw [hg]; exact (below_size (by repeat (first | (with_reducible first | exact HB.out | apply below_alloc | apply pw_below_drewN | apply below_drew1) | exact HB.out))) : w.heap.size ≤ gb146)); clear HO135; clear HO138; clear HO143; clear HB; have HO135 := n0_; have HO138 := n1_; have HO143 := n2_; have HB := n3_; have BK146 := n4_; have GW146 := n5_; have GE146 := n6_; clear n0_ n1_ n2_ n3_ n4_ n5_ n6_; clear hb hbox hg; have hcz22_0 : w21.cell? ⟨gb146, 0, none⟩ = some (.int .i64 0) := (blk_cell BK146.out 0).trans rfl; have hcz22_1 : w21.cell? ⟨gb146, 1, none⟩ = some (.slice none 0 0) := (blk_cell BK146.out 1).trans rfl; have hfz22_0 := blk_frozen BK146.out 0; have hfz22_1 := blk_frozen BK146.out 1; obtain ⟨Ao23, co23, eo23⟩ := Kd.N_slice HO143.out; subst eo23))
       have n0_ : Aside0 (Kd.N k46 46 ((w21.setCell ⟨gb146, 0, none⟩ (.int .i64 t140)).setCell ⟨gb146, 1, none⟩ (.slice Ao23 t141.length co23)) w.heap.size (fun k_ => some k_ ≠ (.slice Ao19 t136.length co19 : Value).ownBlock ∧ some k_ ≠ (.slice Ao23 t141.length co23 : Value).ownBlock ∧ k_ ≠ gb146) (.slice Ao17 t133.length co17) t133) := ⟨by (with_reducible repeat (first | apply Kd.N_alloc | apply Kd.N_drewN | apply Kd.N_drew)); exact Kd.N_mono (Kd.N_far (p := ⟨gb146, 1, none⟩) (Kd.N_far (p := ⟨gb146, 0, none⟩) (Kd.N_mono HO135.out (fun k_ hk => (⟨hk, hk.2⟩ : _ ∧ k_ ≠ gb146))) (fun _ hk => hk.2) (.int .i64 t140)) (fun _ hk => hk.2) (.slice Ao23 t141.length co23)) (fun _ hk => ⟨hk.1.1.1.2, ⟨hk.1.1.2, hk.1.2⟩⟩)⟩
       have n1_ : Aside0 (Kd.R (Kd.int .u8) 5 ((w21.setCell ⟨gb146, 0, none⟩ (.int .i64 t140)).setCell ⟨gb146, 1, none⟩ (.slice Ao23 t141.length co23)) w.heap.size (fun _ => True) (.slice Ao19 t136.length co19) t136) := ⟨by (with_reducible repeat (first | apply Kd.R_alloc | apply Kd.R_drewN | apply Kd.R_drew)); exact Kd.R_mono (Kd.R_far (p := ⟨gb146, 1, none⟩) (Kd.R_far (p := ⟨gb146, 0, none⟩) (Kd.R_types HO138.out BK146.out (by decide)) (fun _ hk => hk.2) (.int .i64 t140)) (fun _ hk => hk.2) (.slice Ao23 t141.length co23)) (fun _ hk => trivial)⟩
       have n2_ : Aside0 (Kd.N k46 46 ((w21.setCell ⟨gb146, 0, none⟩ (.int .i64 t140)).setCell ⟨gb146, 1, none⟩ (.slice Ao23 t141.length co23)) w.heap.size (fun k_ => some k_ ≠ (.slice Ao17 t133.length co17 : Value).ownBlock ∧ some k_ ≠ (.slice Ao19 t136.length co19 : Value).ownBlock ∧ k_ ≠ gb146) (.slice Ao23 t141.length co23) t141) := ⟨by (with_reducible repeat (first | apply Kd.N_alloc | apply Kd.N_drewN | apply Kd.N_drew)); exact Kd.N_mono (Kd.N_far (p := ⟨gb146, 1, none⟩) (Kd.N_far (p := ⟨gb146, 0, none⟩) (Kd.N_mono HO143.out (fun k_ hk => (⟨hk, hk.2⟩ : _ ∧ k_ ≠ gb146))) (fun _ hk => hk.2) (.int .i64 t140)) (fun _ hk => hk.2) (.slice Ao23 t141.length co23)) (fun _ hk => ⟨hk.1.1.1, ⟨hk.1.1.2, hk.1.2⟩⟩)⟩
       have n3_ : Aside0 (((w21.setCell ⟨gb146, 0, none⟩ (.int .i64 t140)).setCell ⟨gb146, 1, none⟩ (.slice Ao23 t141.length co23)).heap[gb146]? = some (.cells #[.int .i64 t140, .slice Ao23 t141.length co23] 24 (0, 0))) := ⟨by (with_reducible repeat (first | refine blk_drewN ?_ _ | refine blk_drew ?_ | refine blk_alloc ?_ _)); refine blk_put (cs := #[.int .i64 t140, .slice none 0 0]) ?_ 1 _ rfl; (with_reducible repeat (first | refine blk_drewN ?_ _ | refine blk_drew ?_ | refine blk_alloc ?_ _)); refine blk_put (cs := #[.int .i64 0, .slice none 0 0]) ?_ 0 _ rfl; (with_reducible repeat (first | refine blk_drewN ?_ _ | refine blk_drew ?_ | refine blk_alloc ?_ _)); exact BK146.out⟩
       have n4_ : Aside0 (Below w.heap.size w ((w21.setCell ⟨gb146, 0, none⟩ (.int .i64 t140)).setCell ⟨gb146, 1, none⟩ (.slice Ao23 t141.length co23))) := ⟨by repeat (first | (with_reducible first | exact HB.out | apply below_alloc | apply pw_below_drewN | apply below_drew1 | refine below_set ?_ GE146.out) | exact HB.out)⟩
       (try clear HO135)
       (try clear HO138)
       (try clear HO143)
       (try clear BK146)
       (try clear HB)
       generalize ((w21.setCell ⟨gb146, 0, none⟩ (.int .i64 t140)).setCell ⟨gb146, 1, none⟩ (.slice Ao23 t141.length co23)) = w24 at n0_ n1_ n2_ n3_ n4_ ⊢
       have HO135 := n0_
       have HO138 := n1_
       have HO143 := n2_
       have BK146 := n3_
       have HB := n4_
       clear n0_ n1_ n2_ n3_ n4_
       have n0_ := Aside0.mk (Kd.N_drew HO135.out)
       have n1_ := Aside0.mk (Kd.R_drew HO138.out)
       have n2_ := Aside0.mk (Kd.N_drew HO143.out)
       have n3_ := Aside0.mk (blk_drew BK146.out)
       have n4_ := Aside0.mk (below_drew1 HB.out)
       clear HO135
       clear HO138
       clear HO143
       clear BK146
       clear HB
       have HO135 := n0_
       have HO138 := n1_
       have HO143 := n2_
       have BK146 := n3_
       have HB := n4_
       clear n0_ n1_ n2_ n3_ n4_
       refine start_ (n := 4) (S := fun w' => w'.cell? ⟨gb146, 0, none⟩ = some (.int .i64 t140) ∧ w'.cell? ⟨gb146, 1, none⟩ = some (.slice Ao23 t141.length co23)) (ds := []) #[false, false, false, false] (by kernel_rfl) rfl rfl ⟨(blk_cell BK146.out 0).trans rfl, (blk_cell BK146.out 1).trans rfl⟩ (fun hHeld => ?_)
       generalize w24.drew = w25 at HO135 HO138 HO143 BK146 HB hHeld ⊢
       refine pt 0 (some 18) (v := ?_) (a' := ?_) rfl rfl (by kernel_rfl) (fun _ _ _ h => h) (Or.inl ⟨by rfl, ?_⟩) hHeld ?_ ?_
       rotate_left; (rintro w' ⟨s0, s1⟩; go_simp; with_reducible rfl); rotate_left; (simp only [Act.put, pn, i64_w, i32_w]; rfl)
       refine one_ (i := 1) (N := some 19) #[true, true, false, false] rfl rfl (by kernel_rfl) (by decide) (fun K hK => ?_)
       refine goes_ Tryd.func29 (by kernel_rfl) rfl #[] (by rfl) rfl rfl (by (try simp only [List.map_toArray, List.map_cons, List.map_nil]); first | done | rfl | (simp only [List.length_drop, List.length_take]; rfl)) ?_
       with_reducible refine (fuguelaw01_least.calls  t147 t148 _ A4.out).mono ?_
       rintro e w26 ⟨v149, rfl, ho0, hb⟩
       refine ⟨_, rfl, ?_⟩
       have n0_ := Aside0.mk (Kd.N_elder' (by (with_reducible repeat (first | apply Kd.N_alloc | apply Kd.N_drewN | apply Kd.N_drew)); exact HO135.out) (Kd.N_base ho0) hb)
       have n1_ := Aside0.mk (Kd.R_below (by (with_reducible repeat (first | apply Kd.R_alloc | apply Kd.R_drewN | apply Kd.R_drew)); exact HO138.out) hb)
       have n2_ := Aside0.mk (Kd.N_elder' (by (with_reducible repeat (first | apply Kd.N_alloc | apply Kd.N_drewN | apply Kd.N_drew)); exact HO143.out) (Kd.N_base ho0) hb)
       have n3_ := Aside0.mk (Kd.N_lower (Kd.N_mono (ok' := fun k_ => some k_ ≠ (.slice Ao17 t133.length co17 : Value).ownBlock ∧ some k_ ≠ (.slice Ao19 t136.length co19 : Value).ownBlock ∧ some k_ ≠ (.slice Ao23 t141.length co23 : Value).ownBlock ∧ k_ ≠ gb146) ho0 (fun k_ hk_ => ⟨(Kd.fresh' (Kd.N_lt (by (with_reducible repeat (first | apply Kd.N_alloc | apply Kd.N_drewN | apply Kd.N_drew)); exact HO135.out)) k_ hk_), (Kd.fresh' (Kd.R_lt (by (with_reducible repeat (first | apply Kd.R_alloc | apply Kd.R_drewN | apply Kd.R_drew)); exact HO138.out)) k_ hk_), (Kd.fresh' (Kd.N_lt (by (with_reducible repeat (first | apply Kd.N_alloc | apply Kd.N_drewN | apply Kd.N_drew)); exact HO143.out)) k_ hk_), (Kd.freshB (g := gb146) (o := .cells #[.int .i64 t140, .slice Ao23 t141.length co23] 24 (0, 0)) (by (with_reducible repeat (first | refine blk_drewN ?_ _ | refine blk_drew ?_ | refine blk_alloc ?_ _)); exact BK146.out) k_ hk_)⟩)) (below_size (by repeat (first | (with_reducible first | exact HB.out | apply below_alloc | apply pw_below_drewN | apply below_drew1 | refine below_set ?_ GE146.out) | exact HB.out))))
       have n4_ := Aside0.mk (blk_below (g := gb146) (o := .cells #[.int .i64 t140, .slice Ao23 t141.length co23] 24 (0, 0)) (by (with_reducible repeat (first | refine blk_drewN ?_ _ | refine blk_drew ?_ | refine blk_alloc ?_ _)); exact BK146.out) hb)
       have n5_ := Aside0.mk (below_step (by repeat (first | (with_reducible first | exact HB.out | apply below_alloc | apply pw_below_drewN | apply below_drew1 | refine below_set ?_ GE146.out) | exact HB.out)) hb)
       clear HO135
       clear HO138
       clear HO143
       clear BK146
       clear HB
       have HO135 := n0_
       have HO138 := n1_
       have HO143 := n2_
       have HO150 := n3_
       have BK146 := n4_
       have HB := n5_
       clear n0_ n1_ n2_ n3_ n4_ n5_
       (try clear hb)
       (try clear hb2)
       (try clear hk)
       (try clear hi)
       (try clear ho0)
       obtain ⟨Ao27, co27, eo27⟩ := Kd.N_slice HO150.out
       (first | subst eo27 | (injection eo27 with f1_ f2_ f3_; have f4_ := f1_.symm; have f5_ := f3_.symm; clear f1_ f2_ f3_; subst f4_; subst f5_))
       refine hK.out _ _ ⟨(blk_cell BK146.out 0).trans rfl, (blk_cell BK146.out 1).trans rfl⟩ (fun hHeld => ?_)
       clear hK K
       refine norm_ (a' := ?_) ?_ ?_
       rotate_left
       ·show Act.put _ (some 19) _ = _
        simp only [Act.put, pn, i64_w, i32_w]
        rfl
       refine one_ (i := 2) (N := some 20) #[true, true, true, false] rfl rfl (by kernel_rfl) (by decide) (fun K hK => ?_)
       refine goes_ Tryd.func14 (by kernel_rfl) rfl #[.agg #[.int .i64 t140, .slice Ao23 t141.length co23], .agg #[.int .i64 t147, .slice Ao27 t148.length co27]] (by rfl) rfl rfl (by (try simp only [List.map_toArray, List.map_cons, List.map_nil]); first | done | rfl | (simp only [List.length_drop, List.length_take]; rfl)) ?_
       with_reducible refine (fugueref00_EqProgram.calls k t140 _ _ t141 t147 _ _ t148 true _ ?side1 ?side2 ?side3 ?side4 A5.out).mono ?_
       (case side1 => repeat (first | exact (Kd.N_reads' HO143.out).2.2 | (with_reducible refine Kd.C_alloc ?_ _) | (with_reducible refine Kd.C_drewN ?_ _) | (with_reducible refine Kd.C_drew ?_)))
       (case side2 => exact (Kd.N_reads' HO143.out).2.1)
       (case side3 => repeat (first | exact (Kd.N_reads' HO150.out).2.2 | (with_reducible refine Kd.C_alloc ?_ _) | (with_reducible refine Kd.C_drewN ?_ _) | (with_reducible refine Kd.C_drew ?_)))
       (case side4 => exact (Kd.N_reads' HO150.out).2.1)
       rintro e w28 ⟨rfl, hb⟩
       refine ⟨_, rfl, ?_⟩
       have n0_ := Aside0.mk (Kd.N_below (by (with_reducible repeat (first | apply Kd.N_alloc | apply Kd.N_drewN | apply Kd.N_drew)); exact HO135.out) hb)
       have n1_ := Aside0.mk (Kd.R_below (by (with_reducible repeat (first | apply Kd.R_alloc | apply Kd.R_drewN | apply Kd.R_drew)); exact HO138.out) hb)
       have n2_ := Aside0.mk (Kd.N_below (by (with_reducible repeat (first | apply Kd.N_alloc | apply Kd.N_drewN | apply Kd.N_drew)); exact HO143.out) hb)
       have n3_ := Aside0.mk (Kd.N_below (by (with_reducible repeat (first | apply Kd.N_alloc | apply Kd.N_drewN | apply Kd.N_drew)); exact HO150.out) hb)
       have n4_ := Aside0.mk (blk_below (g := gb146) (o := .cells #[.int .i64 t140, .slice Ao23 t141.length co23] 24 (0, 0)) (by (with_reducible repeat (first | refine blk_drewN ?_ _ | refine blk_drew ?_ | refine blk_alloc ?_ _)); exact BK146.out) hb)
       have n5_ := Aside0.mk (below_step (by repeat (first | (with_reducible first | exact HB.out | apply below_alloc | apply pw_below_drewN | apply below_drew1 | refine below_set ?_ GE146.out) | exact HB.out)) hb)
       clear HO135
       clear HO138
       clear HO143
       clear HO150
       clear BK146
       clear HB
       have HO135 := n0_
       have HO138 := n1_
       have HO143 := n2_
       have HO150 := n3_
       have BK146 := n4_
       have HB := n5_
       clear n0_ n1_ n2_ n3_ n4_ n5_
       (try clear hb)
       (try clear hb2)
       (try clear hk)
       (try clear hi)
       refine hK.out _ _ ⟨(blk_cell BK146.out 0).trans rfl, (blk_cell BK146.out 1).trans rfl⟩ (fun hHeld => ?_)
       clear hK K
       refine norm_ (a' := ?_) ?_ ?_
       rotate_left
       ·show Act.put _ (some 20) _ = _
        simp only [Act.put, pn, i64_w, i32_w]
        rfl
       refine pq 3 (some 6) (v := ?_) (a' := ?_) rfl rfl (by kernel_rfl) (fun _ _ _ h => h) (Or.inl ⟨by rfl, ?_⟩) ?_ ?_
       rotate_left; (intro w'; go_simp; with_reducible rfl); rotate_left; (simp only [Act.put, pn, i64_w, i32_w]; rfl)
       refine done_ (by kernel_rfl) ?_
       try go_wp2_with (first | ((with_reducible refine gate_callee (f := 29) rfl ?_); refine goesL_ (some 21) rfl rfl Tryd.func29 (by kernel_rfl) rfl #[] rfl (by (try simp only [List.map_toArray, List.map_cons, List.map_nil]); first | done | rfl | (simp only [List.length_drop, List.length_take]; rfl)) ?_; (with_reducible refine (fuguelaw01_least.calls  t152 t153 _ A6.out).mono ?_); rintro e w29 ⟨v154, rfl, ho0, hb⟩; refine ⟨_, rfl, ?_⟩; have n0_ := Aside0.mk (Kd.N_elder' (by (with_reducible repeat (first | apply Kd.N_alloc | apply Kd.N_drewN | apply Kd.N_drew)); exact HO135.out) (Kd.N_base ho0) hb); have n1_ := Aside0.mk (Kd.R_below (by (with_reducible repeat (first | apply Kd.R_alloc | apply Kd.R_drewN | apply Kd.R_drew)); exact HO138.out) hb); have n2_ := Aside0.mk (Kd.N_elder' (by (with_reducible repeat (first | apply Kd.N_alloc | apply Kd.N_drewN | apply Kd.N_drew)); exact HO143.out) (Kd.N_base ho0) hb); have n3_ := Aside0.mk (Kd.N_elder' (by (with_reducible repeat (first | apply Kd.N_alloc | apply Kd.N_drewN | apply Kd.N_drew)); exact HO150.out) (Kd.N_base ho0) hb); have n4_ := Aside0.mk (Kd.N_lower (Kd.N_mono (ok' := fun k_ => some k_ ≠ (.slice Ao17 t133.length co17 : Value).ownBlock ∧ some k_ ≠ (.slice Ao19 t136.length co19 : Value).ownBlock ∧ some k_ ≠ (.slice Ao23 t141.length co23 : Value).ownBlock ∧ some k_ ≠ (.slice Ao27 t148.length co27 : Value).ownBlock ∧ k_ ≠ gb146) ho0 (fun k_ hk_ => ⟨(Kd.fresh' (Kd.N_lt (by (with_reducible repeat (first | apply Kd.N_alloc | apply Kd.N_drewN | apply Kd.N_drew)); exact HO135.out)) k_ hk_), (Kd.fresh' (Kd.R_lt (by (with_reducible repeat (first | apply Kd.R_alloc | apply Kd.R_drewN | apply Kd.R_drew)); exact HO138.out)) k_ hk_), (Kd.fresh' (Kd.N_lt (by (with_reducible repeat (first | apply Kd.N_alloc | apply Kd.N_drewN | apply Kd.N_drew)); exact HO143.out)) k_ hk_), (Kd.fresh' (Kd.N_lt (by (with_reducible repeat (first | apply Kd.N_alloc | apply Kd.N_drewN | apply Kd.N_drew)); exact HO150.out)) k_ hk_), (Kd.freshB (g := gb146) (o := .cells #[.int .i64 t140, .slice Ao23 t141.length co23] 24 (0, 0)) (by (with_reducible repeat (first | refine blk_drewN ?_ _ | refine blk_drew ?_ | refine blk_alloc ?_ _)); exact BK146.out) k_ hk_)⟩)) (below_size (by repeat (first | (with_reducible first | exact HB.out | apply below_alloc | apply pw_below_drewN | apply below_drew1 | refine below_set ?_ GE146.out) | exact HB.out)))); have n5_ := Aside0.mk (blk_below (g := gb146) (o := .cells #[.int .i64 t140, .slice Ao23 t141.length co23] 24 (0, 0)) (by (with_reducible repeat (first | refine blk_drewN ?_ _ | refine blk_drew ?_ | refine blk_alloc ?_ _)); exact BK146.out) hb); have n6_ := Aside0.mk (below_step (by repeat (first | (with_reducible first | exact HB.out | apply below_alloc | apply pw_below_drewN | apply below_drew1 | refine below_set ?_ GE146.out) | exact HB.out)) hb); clear HO135; clear HO138; clear HO143; clear HO150; clear BK146; clear HB; have HO135 := n0_; have HO138 := n1_; have HO143 := n2_; have HO150 := n3_; have HO155 := n4_; have BK146 := n5_; have HB := n6_; clear n0_ n1_ n2_ n3_ n4_ n5_ n6_; (try clear hb); (try clear hb2); (try clear hk); (try clear hi); (try clear ho0); obtain ⟨Ao30, co30, eo30⟩ := Kd.N_slice HO155.out; subst eo30) | ((with_reducible refine gate_callee (f := 12) rfl ?_); refine goesL_ (some 22) rfl rfl Tryd.func12 (by kernel_rfl) rfl #[.agg #[.int .i64 t152, .slice Ao30 t153.length co30]] rfl (by (try simp only [List.map_toArray, List.map_cons, List.map_nil]); first | done | rfl | (simp only [List.length_drop, List.length_take]; rfl)) ?_; (with_reducible refine (code_Check.calls t152 _ _ t153 t156 _ ?side1 ?side2 A7.out).mono ?_); (case side1 => repeat (first | exact (Kd.N_reads' HO155.out).2.2 | (with_reducible refine Kd.C_alloc ?_ _) | (with_reducible refine Kd.C_drewN ?_ _) | (with_reducible refine Kd.C_drew ?_))); (case side2 => exact (Kd.N_reads' HO155.out).2.1); rintro e w31 ⟨rfl, hb⟩; refine ⟨_, rfl, ?_⟩; have n0_ := Aside0.mk (Kd.N_below (by (with_reducible repeat (first | apply Kd.N_alloc | apply Kd.N_drewN | apply Kd.N_drew)); exact HO135.out) hb); have n1_ := Aside0.mk (Kd.R_below (by (with_reducible repeat (first | apply Kd.R_alloc | apply Kd.R_drewN | apply Kd.R_drew)); exact HO138.out) hb); have n2_ := Aside0.mk (Kd.N_below (by (with_reducible repeat (first | apply Kd.N_alloc | apply Kd.N_drewN | apply Kd.N_drew)); exact HO143.out) hb); have n3_ := Aside0.mk (Kd.N_below (by (with_reducible repeat (first | apply Kd.N_alloc | apply Kd.N_drewN | apply Kd.N_drew)); exact HO150.out) hb); have n4_ := Aside0.mk (Kd.N_below (by (with_reducible repeat (first | apply Kd.N_alloc | apply Kd.N_drewN | apply Kd.N_drew)); exact HO155.out) hb); have n5_ := Aside0.mk (blk_below (g := gb146) (o := .cells #[.int .i64 t140, .slice Ao23 t141.length co23] 24 (0, 0)) (by (with_reducible repeat (first | refine blk_drewN ?_ _ | refine blk_drew ?_ | refine blk_alloc ?_ _)); exact BK146.out) hb); have n6_ := Aside0.mk (below_step (by repeat (first | (with_reducible first | exact HB.out | apply below_alloc | apply pw_below_drewN | apply below_drew1 | refine below_set ?_ GE146.out) | exact HB.out)) hb); clear HO135; clear HO138; clear HO143; clear HO150; clear HO155; clear BK146; clear HB; have HO135 := n0_; have HO138 := n1_; have HO143 := n2_; have HO150 := n3_; have HO155 := n4_; have BK146 := n5_; have HB := n6_; clear n0_ n1_ n2_ n3_ n4_ n5_ n6_; (try clear hb); (try clear hb2); (try clear hk); (try clear hi)) | (go_at_call 29; (with_reducible refine (fuguelaw01_least.calls  t157 t158 _ A14.out).mono ?_); rintro e w32 ⟨v159, rfl, ho0, hb⟩; have n0_ := Aside0.mk (Kd.N_elder' (by (with_reducible repeat (first | apply Kd.N_alloc | apply Kd.N_drewN | apply Kd.N_drew)); exact HO135.out) (Kd.N_base ho0) hb); have n1_ := Aside0.mk (Kd.R_below (by (with_reducible repeat (first | apply Kd.R_alloc | apply Kd.R_drewN | apply Kd.R_drew)); exact HO138.out) hb); have n2_ := Aside0.mk (Kd.N_elder' (by (with_reducible repeat (first | apply Kd.N_alloc | apply Kd.N_drewN | apply Kd.N_drew)); exact HO143.out) (Kd.N_base ho0) hb); have n3_ := Aside0.mk (Kd.N_elder' (by (with_reducible repeat (first | apply Kd.N_alloc | apply Kd.N_drewN | apply Kd.N_drew)); exact HO150.out) (Kd.N_base ho0) hb); have n4_ := Aside0.mk (Kd.N_elder' (by (with_reducible repeat (first | apply Kd.N_alloc | apply Kd.N_drewN | apply Kd.N_drew)); exact HO155.out) (Kd.N_base ho0) hb); have n5_ := Aside0.mk (Kd.N_lower (Kd.N_mono (ok' := fun k_ => some k_ ≠ (.slice Ao17 t133.length co17 : Value).ownBlock ∧ some k_ ≠ (.slice Ao19 t136.length co19 : Value).ownBlock ∧ some k_ ≠ (.slice Ao23 t141.length co23 : Value).ownBlock ∧ some k_ ≠ (.slice Ao27 t148.length co27 : Value).ownBlock ∧ some k_ ≠ (.slice Ao30 t153.length co30 : Value).ownBlock ∧ k_ ≠ gb146) ho0 (fun k_ hk_ => ⟨(Kd.fresh' (Kd.N_lt (by (with_reducible repeat (first | apply Kd.N_alloc | apply Kd.N_drewN | apply Kd.N_drew)); exact HO135.out)) k_ hk_), (Kd.fresh' (Kd.R_lt (by (with_reducible repeat (first | apply Kd.R_alloc | apply Kd.R_drewN | apply Kd.R_drew)); exact HO138.out)) k_ hk_), (Kd.fresh' (Kd.N_lt (by (with_reducible repeat (first | apply Kd.N_alloc | apply Kd.N_drewN | apply Kd.N_drew)); exact HO143.out)) k_ hk_), (Kd.fresh' (Kd.N_lt (by (with_reducible repeat (first | apply Kd.N_alloc | apply Kd.N_drewN | apply Kd.N_drew)); exact HO150.out)) k_ hk_), (Kd.fresh' (Kd.N_lt (by (with_reducible repeat (first | apply Kd.N_alloc | apply Kd.N_drewN | apply Kd.N_drew)); exact HO155.out)) k_ hk_), (Kd.freshB (g := gb146) (o := .cells #[.int .i64 t140, .slice Ao23 t141.length co23] 24 (0, 0)) (by (with_reducible repeat (first | refine blk_drewN ?_ _ | refine blk_drew ?_ | refine blk_alloc ?_ _)); exact BK146.out) k_ hk_)⟩)) (below_size (by repeat (first | (with_reducible first | exact HB.out | apply below_alloc | apply pw_below_drewN | apply below_drew1 | refine below_set ?_ GE146.out) | exact HB.out)))); have n6_ := Aside0.mk (blk_below (g := gb146) (o := .cells #[.int .i64 t140, .slice Ao23 t141.length co23] 24 (0, 0)) (by (with_reducible repeat (first | refine blk_drewN ?_ _ | refine blk_drew ?_ | refine blk_alloc ?_ _)); exact BK146.out) hb); have n7_ := Aside0.mk (below_step (by repeat (first | (with_reducible first | exact HB.out | apply below_alloc | apply pw_below_drewN | apply below_drew1 | refine below_set ?_ GE146.out) | exact HB.out)) hb); clear HO135; clear HO138; clear HO143; clear HO150; clear HO155; clear BK146; clear HB; have HO135 := n0_; have HO138 := n1_; have HO143 := n2_; have HO150 := n3_; have HO155 := n4_; have HO160 := n5_; have BK146 := n6_; have HB := n7_; clear n0_ n1_ n2_ n3_ n4_ n5_ n6_ n7_; (try clear hb); (try clear hb2); (try clear hk); (try clear hi); (try clear ho0); obtain ⟨Ao33, co33, eo33⟩ := Kd.N_slice HO160.out; subst eo33) | (go_at_call 13; (with_reducible refine (code_Locations.calls k t157 _ _ t158 t161 _ ?side1 ?side2 A15.out).mono ?_); (case side1 => repeat (first | exact (Kd.N_reads' HO160.out).2.2 | (with_reducible refine Kd.C_alloc ?_ _) | (with_reducible refine Kd.C_drewN ?_ _) | (with_reducible refine Kd.C_drew ?_))); (case side2 => exact (Kd.N_reads' HO160.out).2.1); rintro e w34 ⟨rfl, hb⟩; have n0_ := Aside0.mk (Kd.N_below (by (with_reducible repeat (first | apply Kd.N_alloc | apply Kd.N_drewN | apply Kd.N_drew)); exact HO135.out) hb); have n1_ := Aside0.mk (Kd.R_below (by (with_reducible repeat (first | apply Kd.R_alloc | apply Kd.R_drewN | apply Kd.R_drew)); exact HO138.out) hb); have n2_ := Aside0.mk (Kd.N_below (by (with_reducible repeat (first | apply Kd.N_alloc | apply Kd.N_drewN | apply Kd.N_drew)); exact HO143.out) hb); have n3_ := Aside0.mk (Kd.N_below (by (with_reducible repeat (first | apply Kd.N_alloc | apply Kd.N_drewN | apply Kd.N_drew)); exact HO150.out) hb); have n4_ := Aside0.mk (Kd.N_below (by (with_reducible repeat (first | apply Kd.N_alloc | apply Kd.N_drewN | apply Kd.N_drew)); exact HO155.out) hb); have n5_ := Aside0.mk (Kd.N_below (by (with_reducible repeat (first | apply Kd.N_alloc | apply Kd.N_drewN | apply Kd.N_drew)); exact HO160.out) hb); have n6_ := Aside0.mk (blk_below (g := gb146) (o := .cells #[.int .i64 t140, .slice Ao23 t141.length co23] 24 (0, 0)) (by (with_reducible repeat (first | refine blk_drewN ?_ _ | refine blk_drew ?_ | refine blk_alloc ?_ _)); exact BK146.out) hb); have n7_ := Aside0.mk (below_step (by repeat (first | (with_reducible first | exact HB.out | apply below_alloc | apply pw_below_drewN | apply below_drew1 | refine below_set ?_ GE146.out) | exact HB.out)) hb); clear HO135; clear HO138; clear HO143; clear HO150; clear HO155; clear HO160; clear BK146; clear HB; have HO135 := n0_; have HO138 := n1_; have HO143 := n2_; have HO150 := n3_; have HO155 := n4_; have HO160 := n5_; have BK146 := n6_; have HB := n7_; clear n0_ n1_ n2_ n3_ n4_ n5_ n6_ n7_; (try clear hb); (try clear hb2); (try clear hk); (try clear hi)))
       go_ret
       exact ⟨by first | rfl | (simp [errW_none, errW_some] <;> rfl) | (simp [*, errW_none, errW_some] <;> rfl), by repeat (first | (with_reducible first | exact HB.out | apply below_alloc | apply pw_below_drewN | apply below_drew1 | refine below_set ?_ GE146.out) | exact HB.out)⟩
      ·rw [if_neg c13, Option.some.injEq] at H; subst H; cases hr_
     ·rw [if_neg c12, Option.some.injEq] at H; subst H; cases hr_
    ·rw [if_neg c11, Option.some.injEq] at H; subst H; cases hr_
   ·rw [if_neg c10, Option.some.injEq] at H; subst H; cases hr_
  ·rw [if_neg c9, Option.some.injEq] at H; subst H; cases hr_
 ·rw [if_neg c8, Option.some.injEq] at H; subst H; cases hr_
theorem works_only {k : Nat} {r : Bool} (h : fuguelaw01_works.f k = some r) : r = true := by
 have h1 := at_rounds (fun k => fuguelaw01_works.mono k) (Nat.le_max_left k 12) h
 have h2 := at_rounds (fun k => fuguelaw01_works.mono k) (Nat.le_max_right k 12) (show fuguelaw01_works.f 12 = some true by decide +kernel)
 rw [h2] at h1
 exact (Option.some.inj h1).symm
theorem fuguelaw01_works.calls (k : Nat)  (r : Bool) (w : World) (h : fuguelaw01_works.f k  = some r) (hT_ : Tab w) :
  Calls Tryd.prog 10 #[] w fun e w' => e = .returned (.bool r) ∧ Below w.heap.size w w' := works_yes k r w h (works_only h) hT_
end Go.Proofs.YteonppgdmhakoaaDoor.PC
namespace Go.Proofs.YteonppgdmhakoaaDoor.PC
open Go.RowKit Go.Proofs.YteonppgdmhakoaaDoorW.PrintWords Go.Proofs.YteonppgdmhakoaaDoorW.PrintLast Go.Proofs.YteonppgdmhakoaaDoorW.PrintMore
attribute [local go_sem] max2_int min2_int max_two min_two max_three min_three max_four min_four
set_option linter.unusedVariables false
set_option linter.unusedSimpArgs false
def fugueref00_CopyInts.l0 : Nat → List Int → List Int → Int → Option (List Int)
 | 0, _, _, _ => none
 | k + 1, x0, x3, x4 => if x4 < (x0.length : Int) then (if 0 ≤ x4 then (if x3.length < 17592186044416 then (fugueref00_CopyInts.l0 k x0 (x3 ++ [rd x0 x4]) (wrap64 (x4 + 1))) else (none)) else (none)) else (some x3)
def fugueref00_CopyInts.f (k : Nat) (l0 : List Int) : Option (List Int) := fugueref00_CopyInts.l0 k l0 ([] : List Int) 0
set_option maxHeartbeats 8000000 in
set_option maxRecDepth 100000 in
theorem fugueref00_CopyInts.calls (k : Nat) (A0 : Option Addr) (c0 : Nat) (l0 : List Int) (r : List Int) (w : World) (hr0 : Kd.C (Kd.int .i64) w A0 l0.length l0) (hc0 : l0.length ≤ c0) (h : fugueref00_CopyInts.f k l0 = some r) :
  Calls Tryd.prog 110 #[.slice A0 l0.length c0] w fun e w' => ∃ v0_ : Value, e = .returned (v0_) ∧ Kd.R (Kd.int .i64) 3 w' w.heap.size (fun _ => True) v0_ r ∧ Below w.heap.size w w' := by
 have HR0 := Aside0.mk hr0
 have HC0 := Aside0.mk hc0
 clear hr0 hc0
 have HB := Aside0.mk (Below.refl w.heap.size w)
 have H : (fugueref00_CopyInts.l0 k l0 ([] : List Int) 0) = some r := h
 clear h
 have H' := Aside0.mk H
 clear H
 go_enter Tryd.func110, Tryd.ntmps110
 go_wp2
 go_loopg [3, 4] k (fun kq v3 v4 w' => ∃ (x3_1 : List Int) (x4_1 : Int), v4 = .int .i64 x4_1 ∧ Aside0 (fugueref00_CopyInts.l0 kq l0 x3_1 x4_1 = some r) ∧ Aside0 (kq ≤ k) ∧ Aside0 (Kd.R (Kd.int .i64) 3 w' w.heap.size (fun _ => True) v3 x3_1) ∧ Aside0 (Below w.heap.size w w'))
 case atStart => exact ⟨(([] : List Int)), (0), (by first | rfl | (simp; done) | (simp [*]; done)), H', ⟨Nat.le_refl _⟩, ⟨by first | exact Kd.R_nil _ _ _ _ _ | exact Kd.N_nil _ _ _ _ _ | exact Kd.V_nil _ _ _ _ _ | exact Kd.Q_nil _ _ _ _ _ | exact Kd.S_nil _ _ _ _ _⟩, ⟨by repeat (first | (with_reducible first | exact HB.out | apply below_alloc | apply pw_below_drewN | apply below_drew1) | exact HB.out)⟩⟩
 case round =>
  clear H'
  try clear c1
  obtain ⟨x3_1, x4_1, rfl, HA, HK1, HO_3, HB⟩ := hrel
  cases gk with
  | zero => exact absurd HA.out (by simp [fugueref00_CopyInts.l0])
  | succ k1 =>
   have H := HA.out
   clear HA
   simp only [fugueref00_CopyInts.l0] at H
   by_cases c2 : x4_1 < (l0.length : Int)
   ·rw [if_pos c2] at H
    have c2b0 : decide (x4_1 < (l0.length : Int)) = true := decide_eq_true c2
    clear c2
    by_cases c3 : 0 ≤ x4_1
    ·rw [if_pos c3] at H
     have c3b0 : decide (0 ≤ x4_1) = true := decide_eq_true c3
     clear c3
     by_cases c4 : x3_1.length < 17592186044416
     ·rw [if_pos c4] at H
      have LMc4 := Aside0.mk c4
      clear c4
      obtain ⟨y163, hy163⟩ : ∃ y_ : List Int, y_ = (x3_1 ++ [rd l0 x4_1]) := ⟨_, rfl⟩
      replace H : (fugueref00_CopyInts.l0 k1 l0 y163 (wrap64 (x4_1 + 1))) = some r := by first | (rw [hy163]; with_reducible exact H) | (have H2_ := (Option.bind_some _ _).symm.trans H; rw [hy163]; with_reducible exact H2_) | (have H2_ := (Option.bind_some _ _).symm.trans H; with_reducible exact H2_) | with_reducible exact H | (rw [hy163]; exact H) | exact H
      have Ny163 := Aside0.mk hy163
      clear hy163
      have H' := Aside0.mk H
      clear H
      have p162 : 0 ≤ (x4_1 : Int) := of_decide_eq_true (by first | (with_reducible assumption) | assumption)
      have q162 : x4_1 < (l0.length : Int) := of_decide_eq_true (by first | (with_reducible assumption) | assumption)
      obtain ⟨ad162, e162, hx162_0⟩ := Kd.at_int HR0.out x4_1 p162 q162
      cases e162
      replace hx162_0 := (HB.out.cell (World.block_lt_of_cell? w _ hx162_0)).trans hx162_0
      replace p162 := eq_true p162
      replace q162 := eq_true q162
      go_wp2_with (first | ((with_reducible refine gate_builtin (b := .append) (xs := #[.tmp 11, .tmp 16]) rfl ?_); at_builtin; refine Kd.R_append (Kd.int .i64) (w0 := w) w.heap.size rfl (.tmp 11) (.tmp 16) 48 3 (.int .i64 0) 8 rfl Tryd.underlying48 info3 rfl (by decide) (by omega) u3 x3_1 (rd l0 x4_1) [.int .i64 (rd l0 x4_1)] (fun _ => True) (fun _ => False) rfl rfl ?aP (fun _ hk => hk.elim) ?aF ?aO ?aB ?aS ?aL ?_; (case aP => exact rfl); (case aB => exact (by repeat (first | (with_reducible first | exact HB.out | apply below_alloc | apply pw_below_drewN | apply below_drew1) | exact HB.out))); (case aF => exact (fun _ _ => trivial)); (case aO => exact (by (with_reducible repeat (first | apply Kd.R_alloc | apply Kd.R_drewN | apply Kd.R_drew)); exact HO_3.out)); (case aS => exact (below_size (by repeat (first | (with_reducible first | exact HB.out | apply below_alloc | apply pw_below_drewN | apply below_drew1) | exact HB.out)))); (case aL => have := LMc4.out; omega); intro v164 w5 ho hb hg hat; rw [← Ny163.out] at ho; have n0_ := Aside0.mk (hb); have n1_ := Aside0.mk (ho); clear HB; clear HO_3; have HB := n0_; have HO165 := n1_; clear n0_ n1_; clear ho hb hg hat))
      go_roundg k1
      case measure => have := HK1.out; omega
      case rel => exact ⟨(y163), (wrap64 (x4_1 + 1)), (by first | rfl | (simp; done) | (simp [*]; done)), H', ⟨by have := HK1.out; omega⟩, ⟨by (with_reducible repeat (first | apply Kd.R_alloc | apply Kd.R_drewN | apply Kd.R_drew)); exact HO165.out⟩, ⟨by repeat (first | (with_reducible first | exact HB.out | apply below_alloc | apply pw_below_drewN | apply below_drew1) | exact HB.out)⟩⟩
     ·rw [if_neg c4] at H
      exact absurd H (by simp)
    ·rw [if_neg c3] at H
     exact absurd H (by simp)
   ·rw [if_neg c2] at H
    have c2b0 : decide (x4_1 < (l0.length : Int)) = false := decide_eq_false c2
    clear c2
    obtain rfl := Option.some.inj H
    go_wp2
    go_ret
    exact ⟨_, by first | rfl | (simp [errW_none, errW_some] <;> rfl) | (simp [*, errW_none, errW_some] <;> rfl), by (with_reducible repeat (first | apply Kd.R_alloc | apply Kd.R_drewN | apply Kd.R_drew)); exact HO_3.out, by repeat (first | (with_reducible first | exact HB.out | apply below_alloc | apply pw_below_drewN | apply below_drew1) | exact HB.out)⟩
def fugueref00_CopyInstr.f (k : Nat) (a0_0 : Int) (a0_1 : Int) (a0_2 : Int) (a0_3 : Int) (a0_4 : Int) (l0_5 : List Int) (l0_6 : List Int) : Option (Int × Int × Int × Int × Int × List Int × List Int) := (fugueref00_CopyInts.f k l0_5).bind fun t168 => ((fugueref00_CopyInts.f k l0_6).bind fun t171 => (some (a0_0, a0_1, a0_2, a0_3, a0_4, t168, t171)))
set_option maxHeartbeats 8000000 in
set_option maxRecDepth 100000 in
theorem fugueref00_CopyInstr.calls (k : Nat) (a0_0 : Int) (a0_1 : Int) (a0_2 : Int) (a0_3 : Int) (a0_4 : Int) (A0_5 : Option Addr) (c0_5 : Nat) (l0_5 : List Int) (A0_6 : Option Addr) (c0_6 : Nat) (l0_6 : List Int) (r1 : Int) (r2 : Int) (r3 : Int) (r4 : Int) (r5 : Int) (r6 : List Int) (r7 : List Int) (w : World) (hr0_5 : Kd.C (Kd.int .i64) w A0_5 l0_5.length l0_5) (hc0_5 : l0_5.length ≤ c0_5) (hr0_6 : Kd.C (Kd.int .i64) w A0_6 l0_6.length l0_6) (hc0_6 : l0_6.length ≤ c0_6) (h : fugueref00_CopyInstr.f k a0_0 a0_1 a0_2 a0_3 a0_4 l0_5 l0_6 = some (r1, r2, r3, r4, r5, r6, r7)) :
  Calls Tryd.prog 108 #[.agg #[.int .i64 a0_0, .int .i64 a0_1, .int .i64 a0_2, .int .i64 a0_3, .int .i64 a0_4, .slice A0_5 l0_5.length c0_5, .slice A0_6 l0_6.length c0_6]] w fun e w' => ∃ v5_ v6_ : Value, e = .returned (.agg #[.int .i64 r1, .int .i64 r2, .int .i64 r3, .int .i64 r4, .int .i64 r5, v5_, v6_]) ∧ Kd.R (Kd.int .i64) 3 w' w.heap.size (fun k_ => some k_ ≠ (v6_ : Value).ownBlock) v5_ r6 ∧ Kd.R (Kd.int .i64) 3 w' w.heap.size (fun k_ => some k_ ≠ (v5_ : Value).ownBlock) v6_ r7 ∧ Below w.heap.size w w' := by
 have hu50 := Tryd.underlying50
 have HR0_5 := Aside0.mk hr0_5
 have HC0_5 := Aside0.mk hc0_5
 clear hr0_5 hc0_5
 have HR0_6 := Aside0.mk hr0_6
 have HC0_6 := Aside0.mk hc0_6
 clear hr0_6 hc0_6
 have HB := Aside0.mk (Below.refl w.heap.size w)
 have H : ((fugueref00_CopyInts.f k l0_5).bind fun t168 => ((fugueref00_CopyInts.f k l0_6).bind fun t171 => (some (a0_0, a0_1, a0_2, a0_3, a0_4, t168, t171)))) = some (r1, r2, r3, r4, r5, r6, r7) := h
 clear h
 replace H := Option.bind_eq_some_iff.mp H
 obtain ⟨t168, A20, H⟩ := H
 replace H : ((fugueref00_CopyInts.f k l0_6).bind fun t171 => (some (a0_0, a0_1, a0_2, a0_3, a0_4, t168, t171))) = some (r1, r2, r3, r4, r5, r6, r7) := H
 have A2 := Aside0.mk A20
 clear A20
 replace H := Option.bind_eq_some_iff.mp H
 obtain ⟨t171, A30, H⟩ := H
 replace H : (some (a0_0, a0_1, a0_2, a0_3, a0_4, t168, t171)) = some (r1, r2, r3, r4, r5, r6, r7) := H
 have A3 := Aside0.mk A30
 clear A30
 simp only [Option.some.injEq, Prod.mk.injEq] at H
 obtain ⟨rfl, rfl, rfl, rfl, rfl, rfl, rfl⟩ := H
 go_enter Tryd.func108, Tryd.ntmps108
 go_wp2_with (first | ((with_reducible refine gate_dst (N := 1) rfl ?_); refine box_event ?hg (N := 1) ?hd (cs := #[.int .i64 a0_0, .int .i64 a0_1, .int .i64 a0_2, .int .i64 a0_3, .int .i64 a0_4, .slice A0_5 l0_5.length c0_5, .slice A0_6 l0_6.length c0_6]) (t := 50) ?hr ?_; (case hd => rfl); (case hg => rfl); (case hr => first | (go_simp; done) | (go_simp; rfl)); intro gb166 hg w4 hbox hb; have n0_ := Aside0.mk (below_step (by repeat (first | (with_reducible first | exact HB.out | apply below_alloc | apply pw_below_drewN | apply below_drew1) | exact HB.out)) hb); have n1_ := Aside0.mk (hbox); have n2_ := Aside0.mk ((by rw [hg]; exact (below_size (by repeat (first | (with_reducible first | exact HB.out | apply below_alloc | apply pw_below_drewN | apply below_drew1) | exact HB.out))) : w.heap.size ≤ gb166)); have n3_ := Aside0.mk ((by rw [hg]; exact (below_size (by repeat (first | (with_reducible first | exact HB.out | apply below_alloc | apply pw_below_drewN | apply below_drew1) | exact HB.out))) : w.heap.size ≤ gb166)); clear HB; have HB := n0_; have BK166 := n1_; have GW166 := n2_; have GE166 := n3_; clear n0_ n1_ n2_ n3_; clear hb hbox hg) | ((with_reducible refine gate_dst (N := 2) rfl ?_); refine box_event ?hg (N := 2) ?hd (cs := #[.int .i64 0, .int .i64 0, .int .i64 0, .int .i64 0, .int .i64 0, .slice none 0 0, .slice none 0 0]) (t := 50) ?hr ?_; (case hd => rfl); (case hg => rfl); (case hr => first | (go_simp; done) | (go_simp; rfl)); intro gb167 hg w5 hbox hb; have n0_ := Aside0.mk (blk_below (g := gb166) (o := .cells #[.int .i64 a0_0, .int .i64 a0_1, .int .i64 a0_2, .int .i64 a0_3, .int .i64 a0_4, .slice A0_5 l0_5.length c0_5, .slice A0_6 l0_6.length c0_6] 50 (0, 0)) (by (with_reducible repeat (first | refine blk_drewN ?_ _ | refine blk_drew ?_ | refine blk_alloc ?_ _)); exact BK166.out) hb); have n1_ := Aside0.mk (below_step (by repeat (first | (with_reducible first | exact HB.out | apply below_alloc | apply pw_below_drewN | apply below_drew1 | refine below_set ?_ GE166.out) | exact HB.out)) hb); have n2_ := Aside0.mk (hbox); have n3_ := Aside0.mk ((by rw [hg]; exact (below_size (by repeat (first | (with_reducible first | exact HB.out | apply below_alloc | apply pw_below_drewN | apply below_drew1 | refine below_set ?_ GE166.out) | exact HB.out))) : w.heap.size ≤ gb167)); have n4_ := Aside0.mk ((by rw [hg]; exact (below_size (by repeat (first | (with_reducible first | exact HB.out | apply below_alloc | apply pw_below_drewN | apply below_drew1 | refine below_set ?_ GE166.out) | exact HB.out))) : w.heap.size ≤ gb167)); have n5_ := Aside0.mk ((by rw [hg]; exact Nat.ne_of_lt (blk_lt (g := gb166) (o := .cells #[.int .i64 a0_0, .int .i64 a0_1, .int .i64 a0_2, .int .i64 a0_3, .int .i64 a0_4, .slice A0_5 l0_5.length c0_5, .slice A0_6 l0_6.length c0_6] 50 (0, 0)) (by (with_reducible repeat (first | refine blk_drewN ?_ _ | refine blk_drew ?_ | refine blk_alloc ?_ _)); exact BK166.out)) : gb166 ≠ gb167)); have n6_ := Aside0.mk ((by rw [hg]; exact Nat.ne_of_gt (blk_lt (g := gb166) (o := .cells #[.int .i64 a0_0, .int .i64 a0_1, .int .i64 a0_2, .int .i64 a0_3, .int .i64 a0_4, .slice A0_5 l0_5.length c0_5, .slice A0_6 l0_6.length c0_6] 50 (0, 0)) (by (with_reducible repeat (first | refine blk_drewN ?_ _ | refine blk_drew ?_ | refine blk_alloc ?_ _)); exact BK166.out)) : gb167 ≠ gb166)); clear BK166; clear HB; have BK166 := n0_; have HB := n1_; have BK167 := n2_; have GW167 := n3_; have GE167 := n4_; have NB166_167 := n5_; have NB167_166 := n6_; clear n0_ n1_ n2_ n3_ n4_ n5_ n6_; clear hb hbox hg; have hnb6 := NB166_167.out; have hnc6 := NB167_166.out; have hcz7_0 : w5.cell? ⟨gb166, 0, none⟩ = some (.int .i64 a0_0) := (blk_cell BK166.out 0).trans rfl; have hcz7_1 : w5.cell? ⟨gb166, 1, none⟩ = some (.int .i64 a0_1) := (blk_cell BK166.out 1).trans rfl; have hcz7_2 : w5.cell? ⟨gb166, 2, none⟩ = some (.int .i64 a0_2) := (blk_cell BK166.out 2).trans rfl; have hcz7_3 : w5.cell? ⟨gb166, 3, none⟩ = some (.int .i64 a0_3) := (blk_cell BK166.out 3).trans rfl; have hcz7_4 : w5.cell? ⟨gb166, 4, none⟩ = some (.int .i64 a0_4) := (blk_cell BK166.out 4).trans rfl; have hcz7_5 : w5.cell? ⟨gb166, 5, none⟩ = some (.slice A0_5 l0_5.length c0_5) := (blk_cell BK166.out 5).trans rfl; have hcz7_6 : w5.cell? ⟨gb166, 6, none⟩ = some (.slice A0_6 l0_6.length c0_6) := (blk_cell BK166.out 6).trans rfl; have hfz7_0 := blk_frozen BK166.out 0; have hfz7_1 := blk_frozen BK166.out 1; have hfz7_2 := blk_frozen BK166.out 2; have hfz7_3 := blk_frozen BK166.out 3; have hfz7_4 := blk_frozen BK166.out 4; have hfz7_5 := blk_frozen BK166.out 5; have hfz7_6 := blk_frozen BK166.out 6) | ((with_reducible refine gate_callee (f := 110) rfl ?_); refine goesL_ (some 5) rfl rfl Tryd.func110 (by kernel_rfl) rfl #[.slice A0_5 l0_5.length c0_5] rfl (by (try simp only [List.map_toArray, List.map_cons, List.map_nil]); first | done | rfl | (simp only [List.length_drop, List.length_take]; rfl)) ?_; (with_reducible refine (fugueref00_CopyInts.calls k _ _ l0_5 t168 _ ?side1 ?side2 A2.out).mono ?_); (case side1 => repeat (first | exact (Kd.C_below HR0_5.out HB.out) | (with_reducible refine Kd.C_alloc ?_ _) | (with_reducible refine Kd.C_drewN ?_ _) | (with_reducible refine Kd.C_drew ?_))); (case side2 => exact HC0_5.out); rintro e w8 ⟨v169, rfl, ho0, hb⟩; refine ⟨_, rfl, ?_⟩; have n0_ := Aside0.mk (Kd.R_lower ho0 (below_size (by repeat (first | (with_reducible first | exact HB.out | apply below_alloc | apply pw_below_drewN | apply below_drew1 | refine below_set ?_ GE166.out | refine below_set ?_ GE167.out) | exact HB.out)))); have n1_ := Aside0.mk (blk_below (g := gb166) (o := .cells #[.int .i64 a0_0, .int .i64 a0_1, .int .i64 a0_2, .int .i64 a0_3, .int .i64 a0_4, .slice A0_5 l0_5.length c0_5, .slice A0_6 l0_6.length c0_6] 50 (0, 0)) (by (with_reducible repeat (first | refine blk_drewN ?_ _ | refine blk_drew ?_ | refine blk_alloc ?_ _)); exact BK166.out) hb); have n2_ := Aside0.mk (blk_below (g := gb167) (o := .cells #[.int .i64 0, .int .i64 0, .int .i64 0, .int .i64 0, .int .i64 0, .slice none 0 0, .slice none 0 0] 50 (0, 0)) (by (with_reducible repeat (first | refine blk_drewN ?_ _ | refine blk_drew ?_ | refine blk_alloc ?_ _)); exact BK167.out) hb); have n3_ := Aside0.mk (below_step (by repeat (first | (with_reducible first | exact HB.out | apply below_alloc | apply pw_below_drewN | apply below_drew1 | refine below_set ?_ GE166.out | refine below_set ?_ GE167.out) | exact HB.out)) hb); clear BK166; clear BK167; clear HB; have HO170 := n0_; have BK166 := n1_; have BK167 := n2_; have HB := n3_; clear n0_ n1_ n2_ n3_; (try clear hb); (try clear hb2); (try clear hk); (try clear hi); (try clear ho0); obtain ⟨Ao9, co9, eo9⟩ := Kd.R_slice HO170.out; subst eo9; have hcz10_0 : w8.cell? ⟨gb166, 0, none⟩ = some (.int .i64 a0_0) := (blk_cell BK166.out 0).trans rfl; have hcz10_1 : w8.cell? ⟨gb166, 1, none⟩ = some (.int .i64 a0_1) := (blk_cell BK166.out 1).trans rfl; have hcz10_2 : w8.cell? ⟨gb166, 2, none⟩ = some (.int .i64 a0_2) := (blk_cell BK166.out 2).trans rfl; have hcz10_3 : w8.cell? ⟨gb166, 3, none⟩ = some (.int .i64 a0_3) := (blk_cell BK166.out 3).trans rfl; have hcz10_4 : w8.cell? ⟨gb166, 4, none⟩ = some (.int .i64 a0_4) := (blk_cell BK166.out 4).trans rfl; have hcz10_5 : w8.cell? ⟨gb166, 5, none⟩ = some (.slice A0_5 l0_5.length c0_5) := (blk_cell BK166.out 5).trans rfl; have hcz10_6 : w8.cell? ⟨gb166, 6, none⟩ = some (.slice A0_6 l0_6.length c0_6) := (blk_cell BK166.out 6).trans rfl; have hfz10_0 := blk_frozen BK166.out 0; have hfz10_1 := blk_frozen BK166.out 1; have hfz10_2 := blk_frozen BK166.out 2; have hfz10_3 := blk_frozen BK166.out 3; have hfz10_4 := blk_frozen BK166.out 4; have hfz10_5 := blk_frozen BK166.out 5; have hfz10_6 := blk_frozen BK166.out 6) | ((with_reducible refine gate_callee (f := 110) rfl ?_); refine goesL_ (some 9) rfl rfl Tryd.func110 (by kernel_rfl) rfl #[.slice A0_6 l0_6.length c0_6] rfl (by (try simp only [List.map_toArray, List.map_cons, List.map_nil]); first | done | rfl | (simp only [List.length_drop, List.length_take]; rfl)) ?_; (with_reducible refine (fugueref00_CopyInts.calls k _ _ l0_6 t171 _ ?side1 ?side2 A3.out).mono ?_); (case side1 => exact Kd.C_below HR0_6.out (by repeat (first | (with_reducible first | exact HB.out | apply below_alloc | apply pw_below_drewN | apply below_drew1 | refine below_set ?_ GE166.out | refine below_set ?_ GE167.out) | exact HB.out))); (case side2 => exact HC0_6.out); rintro e w11 ⟨v172, rfl, ho0, hb⟩; refine ⟨_, rfl, ?_⟩; have n0_ := Aside0.mk (Kd.R_elder' (by (with_reducible repeat (first | apply Kd.R_alloc | apply Kd.R_drewN | apply Kd.R_drew)); exact (Kd.R_mono (Kd.R_far (p := ⟨gb166, 5, none⟩) (Kd.R_types HO170.out BK166.out (by decide)) (fun _ hk => hk.2) (.slice Ao9 t168.length co9)) (fun _ h_ => h_.1))) (Kd.R_base ho0) hb); have n1_ := Aside0.mk (Kd.R_lower (Kd.R_new' ho0 (Kd.R_lt (by (with_reducible repeat (first | apply Kd.R_alloc | apply Kd.R_drewN | apply Kd.R_drew)); exact (Kd.R_mono (Kd.R_far (p := ⟨gb166, 5, none⟩) (Kd.R_types HO170.out BK166.out (by decide)) (fun _ hk => hk.2) (.slice Ao9 t168.length co9)) (fun _ h_ => h_.1))))) (below_size (by repeat (first | (with_reducible first | exact HB.out | apply below_alloc | apply pw_below_drewN | apply below_drew1 | refine below_set ?_ GE166.out | refine below_set ?_ GE167.out) | exact HB.out)))); have n2_ := Aside0.mk (blk_below (g := gb166) (o := .cells #[.int .i64 a0_0, .int .i64 a0_1, .int .i64 a0_2, .int .i64 a0_3, .int .i64 a0_4, .slice Ao9 t168.length co9, .slice A0_6 l0_6.length c0_6] 50 (0, 0)) (by (with_reducible repeat (first | refine blk_drewN ?_ _ | refine blk_drew ?_ | refine blk_alloc ?_ _)); refine blk_put (cs := #[.int .i64 a0_0, .int .i64 a0_1, .int .i64 a0_2, .int .i64 a0_3, .int .i64 a0_4, .slice A0_5 l0_5.length c0_5, .slice A0_6 l0_6.length c0_6]) ?_ 5 _ rfl; (with_reducible repeat (first | refine blk_drewN ?_ _ | refine blk_drew ?_ | refine blk_alloc ?_ _)); exact BK166.out) hb); have n3_ := Aside0.mk (blk_below (g := gb167) (o := .cells #[.int .i64 0, .int .i64 0, .int .i64 0, .int .i64 0, .int .i64 0, .slice none 0 0, .slice none 0 0] 50 (0, 0)) (by (with_reducible repeat (first | refine blk_drewN ?_ _ | refine blk_drew ?_ | refine blk_alloc ?_ _)); refine blk_far ?_ NB167_166.out _; (with_reducible repeat (first | refine blk_drewN ?_ _ | refine blk_drew ?_ | refine blk_alloc ?_ _)); exact BK167.out) hb); have n4_ := Aside0.mk (below_step (by repeat (first | (with_reducible first | exact HB.out | apply below_alloc | apply pw_below_drewN | apply below_drew1 | refine below_set ?_ GE166.out | refine below_set ?_ GE167.out) | exact HB.out)) hb); clear HO170; clear BK166; clear BK167; clear HB; have HO170 := n0_; have HO173 := n1_; have BK166 := n2_; have BK167 := n3_; have HB := n4_; clear n0_ n1_ n2_ n3_ n4_; (try clear hb); (try clear hb2); (try clear hk); (try clear hi); (try clear ho0); obtain ⟨Ao12, co12, eo12⟩ := Kd.R_slice HO173.out; subst eo12; have hcz13_0 : w11.cell? ⟨gb166, 0, none⟩ = some (.int .i64 a0_0) := (blk_cell BK166.out 0).trans rfl; have hcz13_1 : w11.cell? ⟨gb166, 1, none⟩ = some (.int .i64 a0_1) := (blk_cell BK166.out 1).trans rfl; have hcz13_2 : w11.cell? ⟨gb166, 2, none⟩ = some (.int .i64 a0_2) := (blk_cell BK166.out 2).trans rfl; have hcz13_3 : w11.cell? ⟨gb166, 3, none⟩ = some (.int .i64 a0_3) := (blk_cell BK166.out 3).trans rfl; have hcz13_4 : w11.cell? ⟨gb166, 4, none⟩ = some (.int .i64 a0_4) := (blk_cell BK166.out 4).trans rfl; have hcz13_5 : w11.cell? ⟨gb166, 5, none⟩ = some (.slice Ao9 t168.length co9) := (blk_cell BK166.out 5).trans rfl; have hcz13_6 : w11.cell? ⟨gb166, 6, none⟩ = some (.slice A0_6 l0_6.length c0_6) := (blk_cell BK166.out 6).trans rfl; have hfz13_0 := blk_frozen BK166.out 0; have hfz13_1 := blk_frozen BK166.out 1; have hfz13_2 := blk_frozen BK166.out 2; have hfz13_3 := blk_frozen BK166.out 3; have hfz13_4 := blk_frozen BK166.out 4; have hfz13_5 := blk_frozen BK166.out 5; have hfz13_6 := blk_frozen BK166.out 6; have hcz14_0 : w11.cell? ⟨gb167, 0, none⟩ = some (.int .i64 0) := (blk_cell BK167.out 0).trans rfl; have hcz14_1 : w11.cell? ⟨gb167, 1, none⟩ = some (.int .i64 0) := (blk_cell BK167.out 1).trans rfl; have hcz14_2 : w11.cell? ⟨gb167, 2, none⟩ = some (.int .i64 0) := (blk_cell BK167.out 2).trans rfl; have hcz14_3 : w11.cell? ⟨gb167, 3, none⟩ = some (.int .i64 0) := (blk_cell BK167.out 3).trans rfl; have hcz14_4 : w11.cell? ⟨gb167, 4, none⟩ = some (.int .i64 0) := (blk_cell BK167.out 4).trans rfl; have hcz14_5 : w11.cell? ⟨gb167, 5, none⟩ = some (.slice none 0 0) := (blk_cell BK167.out 5).trans rfl; have hcz14_6 : w11.cell? ⟨gb167, 6, none⟩ = some (.slice none 0 0) := (blk_cell BK167.out 6).trans rfl; have hfz14_0 := blk_frozen BK167.out 0; have hfz14_1 := blk_frozen BK167.out 1; have hfz14_2 := blk_frozen BK167.out 2; have hfz14_3 := blk_frozen BK167.out 3; have hfz14_4 := blk_frozen BK167.out 4; have hfz14_5 := blk_frozen BK167.out 5; have hfz14_6 := blk_frozen BK167.out 6))
 refine bodyPost_ret (results_cell_row rfl _ _ gb167 50 #[.int .i64 a0_0, .int .i64 a0_1, .int .i64 a0_2, .int .i64 a0_3, .int .i64 a0_4, .slice Ao9 t168.length co9, .slice Ao12 t171.length co12] (0, 0) _ rfl (by (with_reducible repeat (first | refine blk_drewN ?_ _ | refine blk_drew ?_ | refine blk_alloc ?_ _)); refine blk_put (cs := #[.int .i64 a0_0, .int .i64 a0_1, .int .i64 a0_2, .int .i64 a0_3, .int .i64 a0_4, .slice Ao9 t168.length co9, .slice none 0 0]) ?_ 6 _ rfl; (with_reducible repeat (first | refine blk_drewN ?_ _ | refine blk_drew ?_ | refine blk_alloc ?_ _)); refine blk_put (cs := #[.int .i64 a0_0, .int .i64 a0_1, .int .i64 a0_2, .int .i64 a0_3, .int .i64 a0_4, .slice none 0 0, .slice none 0 0]) ?_ 5 _ rfl; (with_reducible repeat (first | refine blk_drewN ?_ _ | refine blk_drew ?_ | refine blk_alloc ?_ _)); refine blk_put (cs := #[.int .i64 a0_0, .int .i64 a0_1, .int .i64 a0_2, .int .i64 a0_3, .int .i64 0, .slice none 0 0, .slice none 0 0]) ?_ 4 _ rfl; (with_reducible repeat (first | refine blk_drewN ?_ _ | refine blk_drew ?_ | refine blk_alloc ?_ _)); refine blk_put (cs := #[.int .i64 a0_0, .int .i64 a0_1, .int .i64 a0_2, .int .i64 0, .int .i64 0, .slice none 0 0, .slice none 0 0]) ?_ 3 _ rfl; (with_reducible repeat (first | refine blk_drewN ?_ _ | refine blk_drew ?_ | refine blk_alloc ?_ _)); refine blk_put (cs := #[.int .i64 a0_0, .int .i64 a0_1, .int .i64 0, .int .i64 0, .int .i64 0, .slice none 0 0, .slice none 0 0]) ?_ 2 _ rfl; (with_reducible repeat (first | refine blk_drewN ?_ _ | refine blk_drew ?_ | refine blk_alloc ?_ _)); refine blk_put (cs := #[.int .i64 a0_0, .int .i64 0, .int .i64 0, .int .i64 0, .int .i64 0, .slice none 0 0, .slice none 0 0]) ?_ 1 _ rfl; (with_reducible repeat (first | refine blk_drewN ?_ _ | refine blk_drew ?_ | refine blk_alloc ?_ _)); refine blk_put (cs := #[.int .i64 0, .int .i64 0, .int .i64 0, .int .i64 0, .int .i64 0, .slice none 0 0, .slice none 0 0]) ?_ 0 _ rfl; (with_reducible repeat (first | refine blk_drewN ?_ _ | refine blk_drew ?_ | refine blk_alloc ?_ _)); refine blk_far ?_ NB167_166.out _; (with_reducible repeat (first | refine blk_drewN ?_ _ | refine blk_drew ?_ | refine blk_alloc ?_ _)); exact BK167.out) Tryd.underlying50 rfl (by kernel_rfl)) rfl ?_
 exact ⟨_, _, by first | rfl | (simp [errW_none, errW_some] <;> rfl) | (simp [*, errW_none, errW_some] <;> rfl), by (with_reducible repeat (first | apply Kd.R_alloc | apply Kd.R_drewN | apply Kd.R_drew)); exact Kd.R_mono (Kd.R_far (p := ⟨gb167, 6, none⟩) (Kd.R_far (p := ⟨gb167, 5, none⟩) (Kd.R_far (p := ⟨gb167, 4, none⟩) (Kd.R_far (p := ⟨gb167, 3, none⟩) (Kd.R_far (p := ⟨gb167, 2, none⟩) (Kd.R_far (p := ⟨gb167, 1, none⟩) (Kd.R_far (p := ⟨gb167, 0, none⟩) (Kd.R_far (p := ⟨gb166, 6, none⟩) (Kd.R_types (Kd.R_types HO170.out BK166.out (by decide)) BK167.out (by decide)) (fun _ hk => hk.1.2) (.slice Ao12 t171.length co12)) (fun _ hk => hk.2) (.int .i64 a0_0)) (fun _ hk => hk.2) (.int .i64 a0_1)) (fun _ hk => hk.2) (.int .i64 a0_2)) (fun _ hk => hk.2) (.int .i64 a0_3)) (fun _ hk => hk.2) (.int .i64 a0_4)) (fun _ hk => hk.2) (.slice Ao9 t168.length co9)) (fun _ hk => hk.2) (.slice Ao12 t171.length co12)) (fun _ hk => hk.1.1.2), by (with_reducible repeat (first | apply Kd.R_alloc | apply Kd.R_drewN | apply Kd.R_drew)); exact Kd.R_mono (Kd.R_far (p := ⟨gb167, 6, none⟩) (Kd.R_far (p := ⟨gb167, 5, none⟩) (Kd.R_far (p := ⟨gb167, 4, none⟩) (Kd.R_far (p := ⟨gb167, 3, none⟩) (Kd.R_far (p := ⟨gb167, 2, none⟩) (Kd.R_far (p := ⟨gb167, 1, none⟩) (Kd.R_far (p := ⟨gb167, 0, none⟩) (Kd.R_far (p := ⟨gb166, 6, none⟩) (Kd.R_types (Kd.R_types HO173.out BK166.out (by decide)) BK167.out (by decide)) (fun _ hk => hk.1.2) (.slice Ao12 t171.length co12)) (fun _ hk => hk.2) (.int .i64 a0_0)) (fun _ hk => hk.2) (.int .i64 a0_1)) (fun _ hk => hk.2) (.int .i64 a0_2)) (fun _ hk => hk.2) (.int .i64 a0_3)) (fun _ hk => hk.2) (.int .i64 a0_4)) (fun _ hk => hk.2) (.slice Ao9 t168.length co9)) (fun _ hk => hk.2) (.slice Ao12 t171.length co12)) (fun _ hk => hk.1.1.2), by repeat (first | (with_reducible first | exact HB.out | apply below_alloc | apply pw_below_drewN | apply below_drew1 | refine below_set ?_ GE166.out | refine below_set ?_ GE167.out) | exact HB.out)⟩
def fugueref00_CopyCode.l0 : Nat → List (S50) → List (S50) → Int → Option ((List (S50)))
 | 0, _, _, _ => none
 | k + 1, x0, x3, x4 => if x4 < (x0.length : Int) then (if 0 ≤ x4 then ((fugueref00_CopyInstr.f k ((rd_T50 x0 x4).f0) ((rd_T50 x0 x4).f1) ((rd_T50 x0 x4).f2) ((rd_T50 x0 x4).f3) ((rd_T50 x0 x4).f4) ((rd_T50 x0 x4).f5) ((rd_T50 x0 x4).f6)).bind fun bt175 => (if x3.length < 1599289640401 then (fugueref00_CopyCode.l0 k x0 (x3 ++ [(⟨bt175.1, bt175.2.1, bt175.2.2.1, bt175.2.2.2.1, bt175.2.2.2.2.1, bt175.2.2.2.2.2.1, bt175.2.2.2.2.2.2⟩ : S50)]) (wrap64 (x4 + 1))) else (none))) else (none)) else (some x3)
def fugueref00_CopyCode.f (k : Nat) (l0 : List (S50)) : Option ((List (S50))) := fugueref00_CopyCode.l0 k l0 ([] : List (S50)) 0
set_option maxHeartbeats 8000000 in
set_option maxRecDepth 100000 in
theorem fugueref00_CopyCode.calls (k : Nat) (A0 : Option Addr) (c0 : Nat) (l0 : List (S50)) (r : List (S50)) (w : World) (hr0 : Kd.C k50 w A0 l0.length l0) (hc0 : l0.length ≤ c0) (h : fugueref00_CopyCode.f k l0 = some r) :
  Calls Tryd.prog 96 #[.slice A0 l0.length c0] w fun e w' => ∃ v0_ : Value, e = .returned (v0_) ∧ Kd.S k50 50 w' w.heap.size (fun _ => True) v0_ r ∧ Below w.heap.size w w' := by
 have hu50 := Tryd.underlying50
 have HR0 := Aside0.mk hr0
 have HC0 := Aside0.mk hc0
 clear hr0 hc0
 have HB := Aside0.mk (Below.refl w.heap.size w)
 have H : (fugueref00_CopyCode.l0 k l0 ([] : List (S50)) 0) = some r := h
 clear h
 have H' := Aside0.mk H
 clear H
 go_enter Tryd.func96, Tryd.ntmps96
 go_wp2
 go_loopg [3, 4] k (fun kq v3 v4 w' => ∃ (x3_1 : List (S50)) (x4_1 : Int), v4 = .int .i64 x4_1 ∧ Aside0 (fugueref00_CopyCode.l0 kq l0 x3_1 x4_1 = some r) ∧ Aside0 (kq ≤ k) ∧ Aside0 (Kd.S k50 50 w' w.heap.size (fun _ => True) v3 x3_1) ∧ Aside0 (Below w.heap.size w w'))
 case atStart => exact ⟨(([] : List (S50))), (0), (by first | rfl | (simp; done) | (simp [*]; done)), H', ⟨Nat.le_refl _⟩, ⟨by first | exact Kd.S_nil _ _ _ _ _ | exact Kd.N_nil _ _ _ _ _ | exact Kd.V_nil _ _ _ _ _ | exact Kd.Q_nil _ _ _ _ _ | exact Kd.R_nil _ _ _ _ _⟩, ⟨by repeat (first | (with_reducible first | exact HB.out | apply below_alloc | apply pw_below_drewN | apply below_drew1) | exact HB.out)⟩⟩
 case round =>
  clear H'
  obtain ⟨x3_1, x4_1, rfl, HA, HK1, HO_3, HB⟩ := hrel
  cases gk with
  | zero => exact absurd HA.out (by simp [fugueref00_CopyCode.l0])
  | succ k1 =>
   have H := HA.out
   clear HA
   simp only [fugueref00_CopyCode.l0] at H
   by_cases c2 : x4_1 < (l0.length : Int)
   ·rw [if_pos c2] at H
    have c2b0 : decide (x4_1 < (l0.length : Int)) = true := decide_eq_true c2
    clear c2
    by_cases c3 : 0 ≤ x4_1
    ·rw [if_pos c3] at H
     have c3b0 : decide (0 ≤ x4_1) = true := decide_eq_true c3
     clear c3
     replace H := Option.bind_eq_some_iff.mp H
     obtain ⟨⟨t175, t176, t177, t178, t179, t180, t183⟩, A40, H⟩ := H
     replace H : (if x3_1.length < 1599289640401 then (fugueref00_CopyCode.l0 k1 l0 (x3_1 ++ [(⟨t175, t176, t177, t178, t179, t180, t183⟩ : S50)]) (wrap64 (x4_1 + 1))) else (none)) = some r := H
     have A4 := Aside0.mk A40
     clear A40
     by_cases c5 : x3_1.length < 1599289640401
     ·rw [if_pos c5] at H
      have LMc5 := Aside0.mk c5
      clear c5
      obtain ⟨y187, hy187⟩ : ∃ y_ : List (S50), y_ = (x3_1 ++ [(⟨t175, t176, t177, t178, t179, t180, t183⟩ : S50)]) := ⟨_, rfl⟩
      replace H : (fugueref00_CopyCode.l0 k1 l0 y187 (wrap64 (x4_1 + 1))) = some r := by first | (rw [hy187]; with_reducible exact H) | (have H2_ := (Option.bind_some _ _).symm.trans H; rw [hy187]; with_reducible exact H2_) | (have H2_ := (Option.bind_some _ _).symm.trans H; with_reducible exact H2_) | with_reducible exact H | (rw [hy187]; exact H) | exact H
      have Ny187 := Aside0.mk hy187
      clear hy187
      have H' := Aside0.mk H
      clear H
      have p174 : 0 ≤ (x4_1 : Int) := of_decide_eq_true (by first | (with_reducible assumption) | assumption)
      have q174 : x4_1 < (l0.length : Int) := of_decide_eq_true (by first | (with_reducible assumption) | assumption)
      obtain ⟨ad174, A174_5, c174_5, A174_6, c174_6, e174, hx174_0, hx174_1, hx174_2, hx174_3, hx174_4, hx174_5, hx174_6, hl174_5, hi174_5, hl174_6, hi174_6⟩ := at_T50 HR0.out x4_1 p174 q174
      cases e174
      replace hx174_0 := (HB.out.cell (World.block_lt_of_cell? w _ hx174_0)).trans hx174_0
      replace hx174_1 := (HB.out.cell (World.block_lt_of_cell? w _ hx174_1)).trans hx174_1
      replace hx174_2 := (HB.out.cell (World.block_lt_of_cell? w _ hx174_2)).trans hx174_2
      replace hx174_3 := (HB.out.cell (World.block_lt_of_cell? w _ hx174_3)).trans hx174_3
      replace hx174_4 := (HB.out.cell (World.block_lt_of_cell? w _ hx174_4)).trans hx174_4
      replace hx174_5 := (HB.out.cell (World.block_lt_of_cell? w _ hx174_5)).trans hx174_5
      replace hx174_6 := (HB.out.cell (World.block_lt_of_cell? w _ hx174_6)).trans hx174_6
      have HR174_5 := Aside0.mk hi174_5
      have HC174_5 := Aside0.mk hl174_5
      clear hi174_5 hl174_5
      have HR174_6 := Aside0.mk hi174_6
      have HC174_6 := Aside0.mk hl174_6
      clear hi174_6 hl174_6
      replace p174 := eq_true p174
      replace q174 := eq_true q174
      go_wp2_with (first | ((with_reducible refine gate_callee (f := 108) rfl ?_); refine goesL_ (some 16) rfl rfl Tryd.func108 (by kernel_rfl) rfl #[.agg #[.int .i64 ((rd_T50 l0 x4_1).f0), .int .i64 ((rd_T50 l0 x4_1).f1), .int .i64 ((rd_T50 l0 x4_1).f2), .int .i64 ((rd_T50 l0 x4_1).f3), .int .i64 ((rd_T50 l0 x4_1).f4), .slice A174_5 ((rd_T50 l0 x4_1).f5).length c174_5, .slice A174_6 ((rd_T50 l0 x4_1).f6).length c174_6]] rfl (by (try simp only [List.map_toArray, List.map_cons, List.map_nil]); first | done | rfl | (simp only [List.length_drop, List.length_take]; rfl)) ?_; (with_reducible refine (fugueref00_CopyInstr.calls k1 ((rd_T50 l0 x4_1).f0) ((rd_T50 l0 x4_1).f1) ((rd_T50 l0 x4_1).f2) ((rd_T50 l0 x4_1).f3) ((rd_T50 l0 x4_1).f4) _ _ ((rd_T50 l0 x4_1).f5) _ _ ((rd_T50 l0 x4_1).f6) t175 t176 t177 t178 t179 t180 t183 _ ?side1 ?side2 ?side3 ?side4 A4.out).mono ?_); (case side1 => repeat (first | exact (Kd.C_below HR174_5.out HB.out) | (with_reducible refine Kd.C_alloc ?_ _) | (with_reducible refine Kd.C_drewN ?_ _) | (with_reducible refine Kd.C_drew ?_))); (case side2 => exact HC174_5.out); (case side3 => repeat (first | exact (Kd.C_below HR174_6.out HB.out) | (with_reducible refine Kd.C_alloc ?_ _) | (with_reducible refine Kd.C_drewN ?_ _) | (with_reducible refine Kd.C_drew ?_))); (case side4 => exact HC174_6.out); rintro e w6 ⟨v181, v184, rfl, ho0, ho1, hb⟩; refine ⟨_, rfl, ?_⟩; have n0_ := Aside0.mk (Kd.S_mono (Kd.S_told (Kd.S_told (Kd.S_old (by (with_reducible repeat (first | apply Kd.S_alloc | apply Kd.S_drewN | apply Kd.S_drew)); exact HO_3.out) hb) (Kd.R_base ho0)) (Kd.R_base ho1)) (fun _ h_ => h_.1)); have n1_ := Aside0.mk (Kd.R_lower ho0 (below_size (by repeat (first | (with_reducible first | exact HB.out | apply below_alloc | apply pw_below_drewN | apply below_drew1) | exact HB.out)))); have n2_ := Aside0.mk (Kd.R_lower ho1 (below_size (by repeat (first | (with_reducible first | exact HB.out | apply below_alloc | apply pw_below_drewN | apply below_drew1) | exact HB.out)))); have n3_ := Aside0.mk (below_step (by repeat (first | (with_reducible first | exact HB.out | apply below_alloc | apply pw_below_drewN | apply below_drew1) | exact HB.out)) hb); clear HO_3; clear HB; have HO_3 := n0_; have HO182 := n1_; have HO185 := n2_; have HB := n3_; clear n0_ n1_ n2_ n3_; (try clear hb); (try clear hb2); (try clear hk); (try clear hi); (try clear ho0); (try clear ho1)) | ((with_reducible refine gate_dst (N := 5) rfl ?_); refine box_event ?hg (N := 5) ?hd (cs := #[.int .i64 0, .int .i64 0, .int .i64 0, .int .i64 0, .int .i64 0, .slice none 0 0, .slice none 0 0]) (t := 50) ?hr ?_; (case hd => rfl); (case hg => rfl); (case hr => first | (go_simp; done) | (go_simp; rfl)); intro gb186 hg w7 hbox hb; have n0_ := Aside0.mk (Kd.S_below (Kd.S_elderB (by (with_reducible repeat (first | apply Kd.S_alloc | apply Kd.S_drewN | apply Kd.S_drew)); exact HO_3.out) gb186 (Nat.le_of_eq hg.symm)) hb); have n1_ := Aside0.mk (Kd.R_below (by (with_reducible repeat (first | apply Kd.R_alloc | apply Kd.R_drewN | apply Kd.R_drew)); exact HO182.out) hb); have n2_ := Aside0.mk (Kd.R_below (by (with_reducible repeat (first | apply Kd.R_alloc | apply Kd.R_drewN | apply Kd.R_drew)); exact HO185.out) hb); have n3_ := Aside0.mk (below_step (by repeat (first | (with_reducible first | exact HB.out | apply below_alloc | apply pw_below_drewN | apply below_drew1) | exact HB.out)) hb); have n4_ := Aside0.mk (hbox); have n5_ := Aside0.mk ((by rw [hg]; exact (below_size (by repeat (first | (with_reducible first | exact HB.out | apply below_alloc | apply pw_below_drewN | apply below_drew1) | exact HB.out))) : w.heap.size ≤ gb186)); have n6_ := Aside0.mk ((by rw [hg]; exact (below_size (by repeat (first | (with_reducible first | exact HB.out | apply below_alloc | apply pw_below_drewN | apply below_drew1) | exact HB.out))) : w.heap.size ≤ gb186)); clear HO_3; clear HO182; clear HO185; clear HB; have HO_3 := n0_; have HO182 := n1_; have HO185 := n2_; have HB := n3_; have BK186 := n4_; have GW186 := n5_; have GE186 := n6_; clear n0_ n1_ n2_ n3_ n4_ n5_ n6_; clear hb hbox hg; have hcz8_0 : w7.cell? ⟨gb186, 0, none⟩ = some (.int .i64 0) := (blk_cell BK186.out 0).trans rfl; have hcz8_1 : w7.cell? ⟨gb186, 1, none⟩ = some (.int .i64 0) := (blk_cell BK186.out 1).trans rfl; have hcz8_2 : w7.cell? ⟨gb186, 2, none⟩ = some (.int .i64 0) := (blk_cell BK186.out 2).trans rfl; have hcz8_3 : w7.cell? ⟨gb186, 3, none⟩ = some (.int .i64 0) := (blk_cell BK186.out 3).trans rfl; have hcz8_4 : w7.cell? ⟨gb186, 4, none⟩ = some (.int .i64 0) := (blk_cell BK186.out 4).trans rfl; have hcz8_5 : w7.cell? ⟨gb186, 5, none⟩ = some (.slice none 0 0) := (blk_cell BK186.out 5).trans rfl; have hcz8_6 : w7.cell? ⟨gb186, 6, none⟩ = some (.slice none 0 0) := (blk_cell BK186.out 6).trans rfl; have hfz8_0 := blk_frozen BK186.out 0; have hfz8_1 := blk_frozen BK186.out 1; have hfz8_2 := blk_frozen BK186.out 2; have hfz8_3 := blk_frozen BK186.out 3; have hfz8_4 := blk_frozen BK186.out 4; have hfz8_5 := blk_frozen BK186.out 5; have hfz8_6 := blk_frozen BK186.out 6; obtain ⟨Ao9, co9, eo9⟩ := Kd.R_slice HO182.out; subst eo9; obtain ⟨Ao10, co10, eo10⟩ := Kd.R_slice HO185.out; subst eo10) | ((with_reducible refine gate_store (t := 50) (p := 5) rfl ?_); refine store_event (t := 50) (p := 5) (v := ?vo_w11) (w1 := (((((((w7.setCell ⟨gb186, 0, none⟩ (.int .i64 t175)).setCell ⟨gb186, 1, none⟩ (.int .i64 t176)).setCell ⟨gb186, 2, none⟩ (.int .i64 t177)).setCell ⟨gb186, 3, none⟩ (.int .i64 t178)).setCell ⟨gb186, 4, none⟩ (.int .i64 t179)).setCell ⟨gb186, 5, none⟩ (.slice Ao9 t180.length co9)).setCell ⟨gb186, 6, none⟩ (.slice Ao10 t183.length co10))) ?hg ?ho ?hn ?hr ?_; (case ho => rfl); (case hg => rfl); (case hn => rfl); (case hr => first | (go_simp; done) | (go_simp; rfl)); intro w11 hw; have n0_ : Aside0 (Kd.S k50 50 w11 w.heap.size (fun k_ => some k_ ≠ (.slice Ao9 t180.length co9 : Value).ownBlock ∧ some k_ ≠ (.slice Ao10 t183.length co10 : Value).ownBlock ∧ k_ ≠ gb186) u3 x3_1) := ⟨(by rw [hw]; exact (by (with_reducible repeat (first | apply Kd.S_alloc | apply Kd.S_drewN | apply Kd.S_drew)); exact Kd.S_mono (Kd.S_far (p := ⟨gb186, 6, none⟩) (Kd.S_far (p := ⟨gb186, 5, none⟩) (Kd.S_far (p := ⟨gb186, 4, none⟩) (Kd.S_far (p := ⟨gb186, 3, none⟩) (Kd.S_far (p := ⟨gb186, 2, none⟩) (Kd.S_far (p := ⟨gb186, 1, none⟩) (Kd.S_far (p := ⟨gb186, 0, none⟩) (Kd.S_mono HO_3.out (fun k_ hk => (⟨hk, hk.2⟩ : _ ∧ k_ ≠ gb186))) (fun _ hk => hk.2) (.int .i64 t175)) (fun _ hk => hk.2) (.int .i64 t176)) (fun _ hk => hk.2) (.int .i64 t177)) (fun _ hk => hk.2) (.int .i64 t178)) (fun _ hk => hk.2) (.int .i64 t179)) (fun _ hk => hk.2) (.slice Ao9 t180.length co9)) (fun _ hk => hk.2) (.slice Ao10 t183.length co10)) (fun _ hk => ⟨hk.1.1.1.2, ⟨hk.1.1.2, hk.1.2⟩⟩)))⟩; have n1_ : Aside0 (Kd.R (Kd.int .i64) 3 w11 w.heap.size (fun k_ => some k_ ≠ (.slice Ao10 t183.length co10 : Value).ownBlock) (.slice Ao9 t180.length co9) t180) := ⟨(by rw [hw]; exact (by (with_reducible repeat (first | apply Kd.R_alloc | apply Kd.R_drewN | apply Kd.R_drew)); exact Kd.R_mono (Kd.R_far (p := ⟨gb186, 6, none⟩) (Kd.R_far (p := ⟨gb186, 5, none⟩) (Kd.R_far (p := ⟨gb186, 4, none⟩) (Kd.R_far (p := ⟨gb186, 3, none⟩) (Kd.R_far (p := ⟨gb186, 2, none⟩) (Kd.R_far (p := ⟨gb186, 1, none⟩) (Kd.R_far (p := ⟨gb186, 0, none⟩) (Kd.R_types HO182.out BK186.out (by decide)) (fun _ hk => hk.2) (.int .i64 t175)) (fun _ hk => hk.2) (.int .i64 t176)) (fun _ hk => hk.2) (.int .i64 t177)) (fun _ hk => hk.2) (.int .i64 t178)) (fun _ hk => hk.2) (.int .i64 t179)) (fun _ hk => hk.2) (.slice Ao9 t180.length co9)) (fun _ hk => hk.2) (.slice Ao10 t183.length co10)) (fun _ hk => hk.1)))⟩; have n2_ : Aside0 (Kd.R (Kd.int .i64) 3 w11 w.heap.size (fun k_ => some k_ ≠ (.slice Ao9 t180.length co9 : Value).ownBlock) (.slice Ao10 t183.length co10) t183) := ⟨(by rw [hw]; exact (by (with_reducible repeat (first | apply Kd.R_alloc | apply Kd.R_drewN | apply Kd.R_drew)); exact Kd.R_mono (Kd.R_far (p := ⟨gb186, 6, none⟩) (Kd.R_far (p := ⟨gb186, 5, none⟩) (Kd.R_far (p := ⟨gb186, 4, none⟩) (Kd.R_far (p := ⟨gb186, 3, none⟩) (Kd.R_far (p := ⟨gb186, 2, none⟩) (Kd.R_far (p := ⟨gb186, 1, none⟩) (Kd.R_far (p := ⟨gb186, 0, none⟩) (Kd.R_types HO185.out BK186.out (by decide)) (fun _ hk => hk.2) (.int .i64 t175)) (fun _ hk => hk.2) (.int .i64 t176)) (fun _ hk => hk.2) (.int .i64 t177)) (fun _ hk => hk.2) (.int .i64 t178)) (fun _ hk => hk.2) (.int .i64 t179)) (fun _ hk => hk.2) (.slice Ao9 t180.length co9)) (fun _ hk => hk.2) (.slice Ao10 t183.length co10)) (fun _ hk => hk.1)))⟩; have n3_ : Aside0 (w11.heap[gb186]? = some (.cells #[.int .i64 t175, .int .i64 t176, .int .i64 t177, .int .i64 t178, .int .i64 t179, .slice Ao9 t180.length co9, .slice Ao10 t183.length co10] 50 (0, 0))) := ⟨(by rw [hw]; exact (by (with_reducible repeat (first | refine blk_drewN ?_ _ | refine blk_drew ?_ | refine blk_alloc ?_ _)); refine blk_put (cs := #[.int .i64 t175, .int .i64 t176, .int .i64 t177, .int .i64 t178, .int .i64 t179, .slice Ao9 t180.length co9, .slice none 0 0]) ?_ 6 _ rfl; (with_reducible repeat (first | refine blk_drewN ?_ _ | refine blk_drew ?_ | refine blk_alloc ?_ _)); refine blk_put (cs := #[.int .i64 t175, .int .i64 t176, .int .i64 t177, .int .i64 t178, .int .i64 t179, .slice none 0 0, .slice none 0 0]) ?_ 5 _ rfl; (with_reducible repeat (first | refine blk_drewN ?_ _ | refine blk_drew ?_ | refine blk_alloc ?_ _)); refine blk_put (cs := #[.int .i64 t175, .int .i64 t176, .int .i64 t177, .int .i64 t178, .int .i64 0, .slice none 0 0, .slice none 0 0]) ?_ 4 _ rfl; (with_reducible repeat (first | refine blk_drewN ?_ _ | refine blk_drew ?_ | refine blk_alloc ?_ _)); refine blk_put (cs := #[.int .i64 t175, .int .i64 t176, .int .i64 t177, .int .i64 0, .int .i64 0, .slice none 0 0, .slice none 0 0]) ?_ 3 _ rfl; (with_reducible repeat (first | refine blk_drewN ?_ _ | refine blk_drew ?_ | refine blk_alloc ?_ _)); refine blk_put (cs := #[.int .i64 t175, .int .i64 t176, .int .i64 0, .int .i64 0, .int .i64 0, .slice none 0 0, .slice none 0 0]) ?_ 2 _ rfl; (with_reducible repeat (first | refine blk_drewN ?_ _ | refine blk_drew ?_ | refine blk_alloc ?_ _)); refine blk_put (cs := #[.int .i64 t175, .int .i64 0, .int .i64 0, .int .i64 0, .int .i64 0, .slice none 0 0, .slice none 0 0]) ?_ 1 _ rfl; (with_reducible repeat (first | refine blk_drewN ?_ _ | refine blk_drew ?_ | refine blk_alloc ?_ _)); refine blk_put (cs := #[.int .i64 0, .int .i64 0, .int .i64 0, .int .i64 0, .int .i64 0, .slice none 0 0, .slice none 0 0]) ?_ 0 _ rfl; (with_reducible repeat (first | refine blk_drewN ?_ _ | refine blk_drew ?_ | refine blk_alloc ?_ _)); exact BK186.out))⟩; have n4_ : Aside0 (Below w.heap.size w w11) := ⟨(by rw [hw]; exact (by repeat (first | (with_reducible first | exact HB.out | apply below_alloc | apply pw_below_drewN | apply below_drew1 | refine below_set ?_ GE186.out) | exact HB.out)))⟩; clear hw; clear HO_3; clear HO182; clear HO185; clear BK186; clear HB; have HO_3 := n0_; have HO182 := n1_; have HO185 := n2_; have BK186 := n3_; have HB := n4_; clear n0_ n1_ n2_ n3_ n4_; have hcz12_0 : w11.cell? ⟨gb186, 0, none⟩ = some (.int .i64 t175) := (blk_cell BK186.out 0).trans rfl; have hcz12_1 : w11.cell? ⟨gb186, 1, none⟩ = some (.int .i64 t176) := (blk_cell BK186.out 1).trans rfl; have hcz12_2 : w11.cell? ⟨gb186, 2, none⟩ = some (.int .i64 t177) := (blk_cell BK186.out 2).trans rfl; have hcz12_3 : w11.cell? ⟨gb186, 3, none⟩ = some (.int .i64 t178) := (blk_cell BK186.out 3).trans rfl; have hcz12_4 : w11.cell? ⟨gb186, 4, none⟩ = some (.int .i64 t179) := (blk_cell BK186.out 4).trans rfl; have hcz12_5 : w11.cell? ⟨gb186, 5, none⟩ = some (.slice Ao9 t180.length co9) := (blk_cell BK186.out 5).trans rfl; have hcz12_6 : w11.cell? ⟨gb186, 6, none⟩ = some (.slice Ao10 t183.length co10) := (blk_cell BK186.out 6).trans rfl; have hfz12_0 := blk_frozen BK186.out 0; have hfz12_1 := blk_frozen BK186.out 1; have hfz12_2 := blk_frozen BK186.out 2; have hfz12_3 := blk_frozen BK186.out 3; have hfz12_4 := blk_frozen BK186.out 4; have hfz12_5 := blk_frozen BK186.out 5; have hfz12_6 := blk_frozen BK186.out 6) | ((with_reducible refine gate_builtin (b := .append) (xs := #[.tmp 17, .tmp 19]) rfl ?_); at_builtin; refine Kd.S_append k50 (w0 := w) w.heap.size rfl (.tmp 17) (.tmp 19) 44 50 (.agg #[(.int .i64 0), (.int .i64 0), (.int .i64 0), (.int .i64 0), (.int .i64 0), (.slice none 0 0), (.slice none 0 0)]) 88 rfl Tryd.underlying44 info50 rfl (by decide) (by omega) u3 x3_1 (⟨t175, t176, t177, t178, t179, t180, t183⟩ : S50) [.int .i64 t175, .int .i64 t176, .int .i64 t177, .int .i64 t178, .int .i64 t179, .slice Ao9 t180.length co9, .slice Ao10 t183.length co10] (fun k_ => k_ ≠ gb186) (fun k_ => some k_ = (.slice Ao9 t180.length co9 : Value).ownBlock ∨ some k_ = (.slice Ao10 t183.length co10 : Value).ownBlock) rfl rfl ?aP (fun k_ hk_ => hk_.elim (fun h_ => ((Kd.R_mono (ok' := fun k_ => ((fun k_ => k_ ≠ gb186)) k_ ∧ some k_ ≠ (u3 : Value).ownBlock) (Kd.R_types (Kd.R_apart' (HO182.out) (Kd.S_typed HO_3.out) (by decide)) BK186.out (by decide)) (fun k_ hk => ⟨hk.2, hk.1.2⟩))).1 k_ h_.symm) (fun h_ => ((Kd.R_mono (ok' := fun k_ => ((fun k_ => k_ ≠ gb186)) k_ ∧ some k_ ≠ (u3 : Value).ownBlock) (Kd.R_types (Kd.R_apart' (HO185.out) (Kd.S_typed HO_3.out) (by decide)) BK186.out (by decide)) (fun k_ hk => ⟨hk.2, hk.1.2⟩))).1 k_ h_.symm)) ?aF ?aO ?aB ?aS ?aL ?_; (case aP => exact k50_mkM _ _ _ (⟨t175, t176, t177, t178, t179, t180, t183⟩ : S50) (Kd.R_mono (Kd.R_tight rfl (Kd.R_mono (ok' := fun k_ => ((fun k_ => k_ ≠ gb186)) k_ ∧ some k_ ≠ (u3 : Value).ownBlock) (Kd.R_types (Kd.R_apart' (HO182.out) (Kd.S_typed HO_3.out) (by decide)) BK186.out (by decide)) (fun k_ hk => ⟨hk.2, hk.1.2⟩))) (fun _ h_ => Or.inl h_)) (Kd.R_mono (Kd.R_tight rfl (Kd.R_mono (ok' := fun k_ => ((fun k_ => k_ ≠ gb186)) k_ ∧ some k_ ≠ (u3 : Value).ownBlock) (Kd.R_types (Kd.R_apart' (HO185.out) (Kd.S_typed HO_3.out) (by decide)) BK186.out (by decide)) (fun k_ hk => ⟨hk.2, hk.1.2⟩))) (fun _ h_ => Or.inr (h_)))); (case aB => exact (by repeat (first | (with_reducible first | exact HB.out | apply below_alloc | apply pw_below_drewN | apply below_drew1 | refine below_set ?_ GE186.out) | exact HB.out))); (case aF => exact (fun k_ hk => Kd.freshB (g := gb186) (o := .cells #[.int .i64 t175, .int .i64 t176, .int .i64 t177, .int .i64 t178, .int .i64 t179, .slice Ao9 t180.length co9, .slice Ao10 t183.length co10] 50 (0, 0)) (by (with_reducible repeat (first | refine blk_drewN ?_ _ | refine blk_drew ?_ | refine blk_alloc ?_ _)); exact BK186.out) k_ hk)); (case aO => exact (by (with_reducible repeat (first | apply Kd.S_alloc | apply Kd.S_drewN | apply Kd.S_drew)); exact Kd.S_mono HO_3.out (fun k_ hk => ⟨hk.2.2, fun e_ => e_.elim (fun h_ => hk.1 h_) (fun h_ => hk.2.1 h_)⟩))); (case aS => exact (below_size (by repeat (first | (with_reducible first | exact HB.out | apply below_alloc | apply pw_below_drewN | apply below_drew1 | refine below_set ?_ GE186.out) | exact HB.out)))); (case aL => have := LMc5.out; omega); intro v188 w13 ho hb hg hat; rw [← Ny187.out] at ho; have n0_ := Aside0.mk (blk_grown (g := gb186) (o := .cells #[.int .i64 t175, .int .i64 t176, .int .i64 t177, .int .i64 t178, .int .i64 t179, .slice Ao9 t180.length co9, .slice Ao10 t183.length co10] 50 (0, 0)) (by (with_reducible repeat (first | refine blk_drewN ?_ _ | refine blk_drew ?_ | refine blk_alloc ?_ _)); exact BK186.out) hg (Kd.S_away HO_3.out (fun _ hk => hk.2.2))); have n1_ := Aside0.mk (hb); have n2_ := Aside0.mk (ho); clear BK186; clear HB; clear HO_3; clear HO182; clear HO185; have BK186 := n0_; have HB := n1_; have HO189 := n2_; clear n0_ n1_ n2_; clear ho hb hg hat))
      go_roundg k1
      case measure => have := HK1.out; omega
      case rel => exact ⟨(y187), (wrap64 (x4_1 + 1)), (by first | rfl | (simp; done) | (simp [*]; done)), H', ⟨by have := HK1.out; omega⟩, ⟨by (with_reducible repeat (first | apply Kd.S_alloc | apply Kd.S_drewN | apply Kd.S_drew)); exact Kd.S_mono HO189.out (fun _ hk => trivial)⟩, ⟨by repeat (first | (with_reducible first | exact HB.out | apply below_alloc | apply pw_below_drewN | apply below_drew1 | refine below_set ?_ GE186.out) | exact HB.out)⟩⟩
     ·rw [if_neg c5] at H
      exact absurd H (by simp)
    ·rw [if_neg c3] at H
     exact absurd H (by simp)
   ·rw [if_neg c2] at H
    have c2b0 : decide (x4_1 < (l0.length : Int)) = false := decide_eq_false c2
    clear c2
    obtain rfl := Option.some.inj H
    go_wp2
    go_ret
    exact ⟨_, by first | rfl | (simp [errW_none, errW_some] <;> rfl) | (simp [*, errW_none, errW_some] <;> rfl), by (with_reducible repeat (first | apply Kd.S_alloc | apply Kd.S_drewN | apply Kd.S_drew)); exact HO_3.out, by repeat (first | (with_reducible first | exact HB.out | apply below_alloc | apply pw_below_drewN | apply below_drew1) | exact HB.out)⟩
def fugueref00_CopyFunc.f (k : Nat) (a0_0 : Int) (a0_1 : Int) (a0_2 : Int) (l0_3 : List (S50)) : Option (Int × Int × Int × (List (S50))) := (fugueref00_CopyCode.f k l0_3).bind fun t192 => (some (a0_0, a0_1, a0_2, t192))
set_option maxHeartbeats 8000000 in
set_option maxRecDepth 100000 in
theorem fugueref00_CopyFunc.calls (k : Nat) (a0_0 : Int) (a0_1 : Int) (a0_2 : Int) (A0_3 : Option Addr) (c0_3 : Nat) (l0_3 : List (S50)) (r1 : Int) (r2 : Int) (r3 : Int) (r4 : List (S50)) (w : World) (hr0_3 : Kd.C k50 w A0_3 l0_3.length l0_3) (hc0_3 : l0_3.length ≤ c0_3) (h : fugueref00_CopyFunc.f k a0_0 a0_1 a0_2 l0_3 = some (r1, r2, r3, r4)) :
  Calls Tryd.prog 67 #[.agg #[.int .i64 a0_0, .int .i64 a0_1, .int .i64 a0_2, .slice A0_3 l0_3.length c0_3]] w fun e w' => ∃ v3_ : Value, e = .returned (.agg #[.int .i64 r1, .int .i64 r2, .int .i64 r3, v3_]) ∧ Kd.S k50 50 w' w.heap.size (fun _ => True) v3_ r4 ∧ Below w.heap.size w w' := by
 have hu46 := Tryd.underlying46
 have HR0_3 := Aside0.mk hr0_3
 have HC0_3 := Aside0.mk hc0_3
 clear hr0_3 hc0_3
 have HB := Aside0.mk (Below.refl w.heap.size w)
 have H : ((fugueref00_CopyCode.f k l0_3).bind fun t192 => (some (a0_0, a0_1, a0_2, t192))) = some (r1, r2, r3, r4) := h
 clear h
 replace H := Option.bind_eq_some_iff.mp H
 obtain ⟨t192, A20, H⟩ := H
 replace H : (some (a0_0, a0_1, a0_2, t192)) = some (r1, r2, r3, r4) := H
 have A2 := Aside0.mk A20
 clear A20
 simp only [Option.some.injEq, Prod.mk.injEq] at H
 obtain ⟨rfl, rfl, rfl, rfl⟩ := H
 go_enter Tryd.func67, Tryd.ntmps67
 go_wp2_with (first | ((with_reducible refine gate_dst (N := 1) rfl ?_); refine box_event ?hg (N := 1) ?hd (cs := #[.int .i64 a0_0, .int .i64 a0_1, .int .i64 a0_2, .slice A0_3 l0_3.length c0_3]) (t := 46) ?hr ?_; (case hd => rfl); (case hg => rfl); (case hr => first | (go_simp; done) | (go_simp; rfl)); intro gb190 hg w3 hbox hb; have n0_ := Aside0.mk (below_step (by repeat (first | (with_reducible first | exact HB.out | apply below_alloc | apply pw_below_drewN | apply below_drew1) | exact HB.out)) hb); have n1_ := Aside0.mk (hbox); have n2_ := Aside0.mk ((by rw [hg]; exact (below_size (by repeat (first | (with_reducible first | exact HB.out | apply below_alloc | apply pw_below_drewN | apply below_drew1) | exact HB.out))) : w.heap.size ≤ gb190)); have n3_ := Aside0.mk ((by rw [hg]; exact (below_size (by repeat (first | (with_reducible first | exact HB.out | apply below_alloc | apply pw_below_drewN | apply below_drew1) | exact HB.out))) : w.heap.size ≤ gb190)); clear HB; have HB := n0_; have BK190 := n1_; have GW190 := n2_; have GE190 := n3_; clear n0_ n1_ n2_ n3_; clear hb hbox hg) | ((with_reducible refine gate_dst (N := 2) rfl ?_); refine box_event ?hg (N := 2) ?hd (cs := #[.int .i64 0, .int .i64 0, .int .i64 0, .slice none 0 0]) (t := 46) ?hr ?_; (case hd => rfl); (case hg => rfl); (case hr => first | (go_simp; done) | (go_simp; rfl)); intro gb191 hg w4 hbox hb; have n0_ := Aside0.mk (blk_below (g := gb190) (o := .cells #[.int .i64 a0_0, .int .i64 a0_1, .int .i64 a0_2, .slice A0_3 l0_3.length c0_3] 46 (0, 0)) (by (with_reducible repeat (first | refine blk_drewN ?_ _ | refine blk_drew ?_ | refine blk_alloc ?_ _)); exact BK190.out) hb); have n1_ := Aside0.mk (below_step (by repeat (first | (with_reducible first | exact HB.out | apply below_alloc | apply pw_below_drewN | apply below_drew1 | refine below_set ?_ GE190.out) | exact HB.out)) hb); have n2_ := Aside0.mk (hbox); have n3_ := Aside0.mk ((by rw [hg]; exact (below_size (by repeat (first | (with_reducible first | exact HB.out | apply below_alloc | apply pw_below_drewN | apply below_drew1 | refine below_set ?_ GE190.out) | exact HB.out))) : w.heap.size ≤ gb191)); have n4_ := Aside0.mk ((by rw [hg]; exact (below_size (by repeat (first | (with_reducible first | exact HB.out | apply below_alloc | apply pw_below_drewN | apply below_drew1 | refine below_set ?_ GE190.out) | exact HB.out))) : w.heap.size ≤ gb191)); have n5_ := Aside0.mk ((by rw [hg]; exact Nat.ne_of_lt (blk_lt (g := gb190) (o := .cells #[.int .i64 a0_0, .int .i64 a0_1, .int .i64 a0_2, .slice A0_3 l0_3.length c0_3] 46 (0, 0)) (by (with_reducible repeat (first | refine blk_drewN ?_ _ | refine blk_drew ?_ | refine blk_alloc ?_ _)); exact BK190.out)) : gb190 ≠ gb191)); have n6_ := Aside0.mk ((by rw [hg]; exact Nat.ne_of_gt (blk_lt (g := gb190) (o := .cells #[.int .i64 a0_0, .int .i64 a0_1, .int .i64 a0_2, .slice A0_3 l0_3.length c0_3] 46 (0, 0)) (by (with_reducible repeat (first | refine blk_drewN ?_ _ | refine blk_drew ?_ | refine blk_alloc ?_ _)); exact BK190.out)) : gb191 ≠ gb190)); clear BK190; clear HB; have BK190 := n0_; have HB := n1_; have BK191 := n2_; have GW191 := n3_; have GE191 := n4_; have NB190_191 := n5_; have NB191_190 := n6_; clear n0_ n1_ n2_ n3_ n4_ n5_ n6_; clear hb hbox hg; have hnb5 := NB190_191.out; have hnc5 := NB191_190.out; have hcz6_0 : w4.cell? ⟨gb190, 0, none⟩ = some (.int .i64 a0_0) := (blk_cell BK190.out 0).trans rfl; have hcz6_1 : w4.cell? ⟨gb190, 1, none⟩ = some (.int .i64 a0_1) := (blk_cell BK190.out 1).trans rfl; have hcz6_2 : w4.cell? ⟨gb190, 2, none⟩ = some (.int .i64 a0_2) := (blk_cell BK190.out 2).trans rfl; have hcz6_3 : w4.cell? ⟨gb190, 3, none⟩ = some (.slice A0_3 l0_3.length c0_3) := (blk_cell BK190.out 3).trans rfl; have hfz6_0 := blk_frozen BK190.out 0; have hfz6_1 := blk_frozen BK190.out 1; have hfz6_2 := blk_frozen BK190.out 2; have hfz6_3 := blk_frozen BK190.out 3) | ((with_reducible refine gate_callee (f := 96) rfl ?_); refine goesL_ (some 5) rfl rfl Tryd.func96 (by kernel_rfl) rfl #[.slice A0_3 l0_3.length c0_3] rfl (by (try simp only [List.map_toArray, List.map_cons, List.map_nil]); first | done | rfl | (simp only [List.length_drop, List.length_take]; rfl)) ?_; (with_reducible refine (fugueref00_CopyCode.calls k _ _ l0_3 t192 _ ?side1 ?side2 A2.out).mono ?_); (case side1 => repeat (first | exact (Kd.C_below HR0_3.out HB.out) | (with_reducible refine Kd.C_alloc ?_ _) | (with_reducible refine Kd.C_drewN ?_ _) | (with_reducible refine Kd.C_drew ?_))); (case side2 => exact HC0_3.out); rintro e w7 ⟨v193, rfl, ho0, hb⟩; refine ⟨_, rfl, ?_⟩; have n0_ := Aside0.mk (Kd.S_lower ho0 (below_size (by repeat (first | (with_reducible first | exact HB.out | apply below_alloc | apply pw_below_drewN | apply below_drew1 | refine below_set ?_ GE190.out | refine below_set ?_ GE191.out) | exact HB.out)))); have n1_ := Aside0.mk (blk_below (g := gb190) (o := .cells #[.int .i64 a0_0, .int .i64 a0_1, .int .i64 a0_2, .slice A0_3 l0_3.length c0_3] 46 (0, 0)) (by (with_reducible repeat (first | refine blk_drewN ?_ _ | refine blk_drew ?_ | refine blk_alloc ?_ _)); exact BK190.out) hb); have n2_ := Aside0.mk (blk_below (g := gb191) (o := .cells #[.int .i64 0, .int .i64 0, .int .i64 0, .slice none 0 0] 46 (0, 0)) (by (with_reducible repeat (first | refine blk_drewN ?_ _ | refine blk_drew ?_ | refine blk_alloc ?_ _)); exact BK191.out) hb); have n3_ := Aside0.mk (below_step (by repeat (first | (with_reducible first | exact HB.out | apply below_alloc | apply pw_below_drewN | apply below_drew1 | refine below_set ?_ GE190.out | refine below_set ?_ GE191.out) | exact HB.out)) hb); clear BK190; clear BK191; clear HB; have HO194 := n0_; have BK190 := n1_; have BK191 := n2_; have HB := n3_; clear n0_ n1_ n2_ n3_; (try clear hb); (try clear hb2); (try clear hk); (try clear hi); (try clear ho0); obtain ⟨Ao8, co8, eo8⟩ := Kd.S_slice HO194.out; subst eo8; have hcz9_0 : w7.cell? ⟨gb190, 0, none⟩ = some (.int .i64 a0_0) := (blk_cell BK190.out 0).trans rfl; have hcz9_1 : w7.cell? ⟨gb190, 1, none⟩ = some (.int .i64 a0_1) := (blk_cell BK190.out 1).trans rfl; have hcz9_2 : w7.cell? ⟨gb190, 2, none⟩ = some (.int .i64 a0_2) := (blk_cell BK190.out 2).trans rfl; have hcz9_3 : w7.cell? ⟨gb190, 3, none⟩ = some (.slice A0_3 l0_3.length c0_3) := (blk_cell BK190.out 3).trans rfl; have hfz9_0 := blk_frozen BK190.out 0; have hfz9_1 := blk_frozen BK190.out 1; have hfz9_2 := blk_frozen BK190.out 2; have hfz9_3 := blk_frozen BK190.out 3; have hcz10_0 : w7.cell? ⟨gb191, 0, none⟩ = some (.int .i64 0) := (blk_cell BK191.out 0).trans rfl; have hcz10_1 : w7.cell? ⟨gb191, 1, none⟩ = some (.int .i64 0) := (blk_cell BK191.out 1).trans rfl; have hcz10_2 : w7.cell? ⟨gb191, 2, none⟩ = some (.int .i64 0) := (blk_cell BK191.out 2).trans rfl; have hcz10_3 : w7.cell? ⟨gb191, 3, none⟩ = some (.slice none 0 0) := (blk_cell BK191.out 3).trans rfl; have hfz10_0 := blk_frozen BK191.out 0; have hfz10_1 := blk_frozen BK191.out 1; have hfz10_2 := blk_frozen BK191.out 2; have hfz10_3 := blk_frozen BK191.out 3))
 refine bodyPost_ret (results_cell_row rfl _ _ gb191 46 #[.int .i64 a0_0, .int .i64 a0_1, .int .i64 a0_2, .slice Ao8 t192.length co8] (0, 0) _ rfl (by (with_reducible repeat (first | refine blk_drewN ?_ _ | refine blk_drew ?_ | refine blk_alloc ?_ _)); refine blk_put (cs := #[.int .i64 a0_0, .int .i64 a0_1, .int .i64 a0_2, .slice none 0 0]) ?_ 3 _ rfl; (with_reducible repeat (first | refine blk_drewN ?_ _ | refine blk_drew ?_ | refine blk_alloc ?_ _)); refine blk_put (cs := #[.int .i64 a0_0, .int .i64 a0_1, .int .i64 0, .slice none 0 0]) ?_ 2 _ rfl; (with_reducible repeat (first | refine blk_drewN ?_ _ | refine blk_drew ?_ | refine blk_alloc ?_ _)); refine blk_put (cs := #[.int .i64 a0_0, .int .i64 0, .int .i64 0, .slice none 0 0]) ?_ 1 _ rfl; (with_reducible repeat (first | refine blk_drewN ?_ _ | refine blk_drew ?_ | refine blk_alloc ?_ _)); refine blk_put (cs := #[.int .i64 0, .int .i64 0, .int .i64 0, .slice none 0 0]) ?_ 0 _ rfl; (with_reducible repeat (first | refine blk_drewN ?_ _ | refine blk_drew ?_ | refine blk_alloc ?_ _)); refine blk_far ?_ NB191_190.out _; (with_reducible repeat (first | refine blk_drewN ?_ _ | refine blk_drew ?_ | refine blk_alloc ?_ _)); exact BK191.out) Tryd.underlying46 rfl (by kernel_rfl)) rfl ?_
 exact ⟨_, by first | rfl | (simp [errW_none, errW_some] <;> rfl) | (simp [*, errW_none, errW_some] <;> rfl), by (with_reducible repeat (first | apply Kd.S_alloc | apply Kd.S_drewN | apply Kd.S_drew)); exact Kd.S_mono (Kd.S_far (p := ⟨gb191, 3, none⟩) (Kd.S_far (p := ⟨gb191, 2, none⟩) (Kd.S_far (p := ⟨gb191, 1, none⟩) (Kd.S_far (p := ⟨gb191, 0, none⟩) (Kd.S_far (p := ⟨gb190, 3, none⟩) (Kd.S_types (Kd.S_types HO194.out BK190.out (by decide)) BK191.out (by decide)) (fun _ hk => hk.1.2) (.slice Ao8 t192.length co8)) (fun _ hk => hk.2) (.int .i64 a0_0)) (fun _ hk => hk.2) (.int .i64 a0_1)) (fun _ hk => hk.2) (.int .i64 a0_2)) (fun _ hk => hk.2) (.slice Ao8 t192.length co8)) (fun _ hk => trivial), by repeat (first | (with_reducible first | exact HB.out | apply below_alloc | apply pw_below_drewN | apply below_drew1 | refine below_set ?_ GE190.out | refine below_set ?_ GE191.out) | exact HB.out)⟩
def fugueref00_CopyFuncs.l0 : Nat → List (S46) → List (S46) → Int → Option ((List (S46)))
 | 0, _, _, _ => none
 | k + 1, x0, x3, x4 => if x4 < (x0.length : Int) then (if 0 ≤ x4 then ((fugueref00_CopyFunc.f k ((rd_T46 x0 x4).f0) ((rd_T46 x0 x4).f1) ((rd_T46 x0 x4).f2) ((rd_T46 x0 x4).f3)).bind fun bt196 => (if x3.length < 2932031007402 then (fugueref00_CopyFuncs.l0 k x0 (x3 ++ [(⟨bt196.1, bt196.2.1, bt196.2.2.1, bt196.2.2.2⟩ : S46)]) (wrap64 (x4 + 1))) else (none))) else (none)) else (some x3)
def fugueref00_CopyFuncs.f (k : Nat) (l0 : List (S46)) : Option ((List (S46))) := fugueref00_CopyFuncs.l0 k l0 ([] : List (S46)) 0
set_option maxHeartbeats 8000000 in
set_option maxRecDepth 100000 in
theorem fugueref00_CopyFuncs.calls (k : Nat) (A0 : Option Addr) (c0 : Nat) (l0 : List (S46)) (r : List (S46)) (w : World) (hr0 : Kd.C k46 w A0 l0.length l0) (hc0 : l0.length ≤ c0) (h : fugueref00_CopyFuncs.f k l0 = some r) :
  Calls Tryd.prog 37 #[.slice A0 l0.length c0] w fun e w' => ∃ v0_ : Value, e = .returned (v0_) ∧ Kd.R k46 46 w' w.heap.size (fun _ => True) v0_ r ∧ Below w.heap.size w w' := by
 have hu46 := Tryd.underlying46
 have HR0 := Aside0.mk hr0
 have HC0 := Aside0.mk hc0
 clear hr0 hc0
 have HB := Aside0.mk (Below.refl w.heap.size w)
 have H : (fugueref00_CopyFuncs.l0 k l0 ([] : List (S46)) 0) = some r := h
 clear h
 have H' := Aside0.mk H
 clear H
 go_enter Tryd.func37, Tryd.ntmps37
 go_wp2
 go_loopg [3, 4] k (fun kq v3 v4 w' => ∃ (x3_1 : List (S46)) (x4_1 : Int), v4 = .int .i64 x4_1 ∧ Aside0 (fugueref00_CopyFuncs.l0 kq l0 x3_1 x4_1 = some r) ∧ Aside0 (kq ≤ k) ∧ Aside0 (Kd.R k46 46 w' w.heap.size (fun _ => True) v3 x3_1) ∧ Aside0 (Below w.heap.size w w'))
 case atStart => exact ⟨(([] : List (S46))), (0), (by first | rfl | (simp; done) | (simp [*]; done)), H', ⟨Nat.le_refl _⟩, ⟨by first | exact Kd.R_nil _ _ _ _ _ | exact Kd.N_nil _ _ _ _ _ | exact Kd.V_nil _ _ _ _ _ | exact Kd.Q_nil _ _ _ _ _ | exact Kd.S_nil _ _ _ _ _⟩, ⟨by repeat (first | (with_reducible first | exact HB.out | apply below_alloc | apply pw_below_drewN | apply below_drew1) | exact HB.out)⟩⟩
 case round =>
  clear H'
  obtain ⟨x3_1, x4_1, rfl, HA, HK1, HO_3, HB⟩ := hrel
  cases gk with
  | zero => exact absurd HA.out (by simp [fugueref00_CopyFuncs.l0])
  | succ k1 =>
   have H := HA.out
   clear HA
   simp only [fugueref00_CopyFuncs.l0] at H
   by_cases c2 : x4_1 < (l0.length : Int)
   ·rw [if_pos c2] at H
    have c2b0 : decide (x4_1 < (l0.length : Int)) = true := decide_eq_true c2
    clear c2
    by_cases c3 : 0 ≤ x4_1
    ·rw [if_pos c3] at H
     have c3b0 : decide (0 ≤ x4_1) = true := decide_eq_true c3
     clear c3
     replace H := Option.bind_eq_some_iff.mp H
     obtain ⟨⟨t196, t197, t198, t199⟩, A40, H⟩ := H
     replace H : (if x3_1.length < 2932031007402 then (fugueref00_CopyFuncs.l0 k1 l0 (x3_1 ++ [(⟨t196, t197, t198, t199⟩ : S46)]) (wrap64 (x4_1 + 1))) else (none)) = some r := H
     have A4 := Aside0.mk A40
     clear A40
     by_cases c5 : x3_1.length < 2932031007402
     ·rw [if_pos c5] at H
      have LMc5 := Aside0.mk c5
      clear c5
      obtain ⟨y203, hy203⟩ : ∃ y_ : List (S46), y_ = (x3_1 ++ [(⟨t196, t197, t198, t199⟩ : S46)]) := ⟨_, rfl⟩
      replace H : (fugueref00_CopyFuncs.l0 k1 l0 y203 (wrap64 (x4_1 + 1))) = some r := by first | (rw [hy203]; with_reducible exact H) | (have H2_ := (Option.bind_some _ _).symm.trans H; rw [hy203]; with_reducible exact H2_) | (have H2_ := (Option.bind_some _ _).symm.trans H; with_reducible exact H2_) | with_reducible exact H | (rw [hy203]; exact H) | exact H
      have Ny203 := Aside0.mk hy203
      clear hy203
      have H' := Aside0.mk H
      clear H
      have p195 : 0 ≤ (x4_1 : Int) := of_decide_eq_true (by first | (with_reducible assumption) | assumption)
      have q195 : x4_1 < (l0.length : Int) := of_decide_eq_true (by first | (with_reducible assumption) | assumption)
      obtain ⟨ad195, A195_3, c195_3, e195, hx195_0, hx195_1, hx195_2, hx195_3, hl195_3, hi195_3⟩ := at_T46 HR0.out x4_1 p195 q195
      cases e195
      replace hx195_0 := (HB.out.cell (World.block_lt_of_cell? w _ hx195_0)).trans hx195_0
      replace hx195_1 := (HB.out.cell (World.block_lt_of_cell? w _ hx195_1)).trans hx195_1
      replace hx195_2 := (HB.out.cell (World.block_lt_of_cell? w _ hx195_2)).trans hx195_2
      replace hx195_3 := (HB.out.cell (World.block_lt_of_cell? w _ hx195_3)).trans hx195_3
      have HR195_3 := Aside0.mk hi195_3
      have HC195_3 := Aside0.mk hl195_3
      clear hi195_3 hl195_3
      replace p195 := eq_true p195
      replace q195 := eq_true q195
      go_wp2_with (first | ((with_reducible refine gate_callee (f := 67) rfl ?_); refine goesL_ (some 16) rfl rfl Tryd.func67 (by kernel_rfl) rfl #[.agg #[.int .i64 ((rd_T46 l0 x4_1).f0), .int .i64 ((rd_T46 l0 x4_1).f1), .int .i64 ((rd_T46 l0 x4_1).f2), .slice A195_3 ((rd_T46 l0 x4_1).f3).length c195_3]] rfl (by (try simp only [List.map_toArray, List.map_cons, List.map_nil]); first | done | rfl | (simp only [List.length_drop, List.length_take]; rfl)) ?_; (with_reducible refine (fugueref00_CopyFunc.calls k1 ((rd_T46 l0 x4_1).f0) ((rd_T46 l0 x4_1).f1) ((rd_T46 l0 x4_1).f2) _ _ ((rd_T46 l0 x4_1).f3) t196 t197 t198 t199 _ ?side1 ?side2 A4.out).mono ?_); (case side1 => repeat (first | exact (Kd.C_below HR195_3.out HB.out) | (with_reducible refine Kd.C_alloc ?_ _) | (with_reducible refine Kd.C_drewN ?_ _) | (with_reducible refine Kd.C_drew ?_))); (case side2 => exact HC195_3.out); rintro e w6 ⟨v200, rfl, ho0, hb⟩; refine ⟨_, rfl, ?_⟩; have n0_ := Aside0.mk (Kd.R_elder' (by (with_reducible repeat (first | apply Kd.R_alloc | apply Kd.R_drewN | apply Kd.R_drew)); exact HO_3.out) (Kd.S_base ho0) hb); have n1_ := Aside0.mk (Kd.S_lower ho0 (below_size (by repeat (first | (with_reducible first | exact HB.out | apply below_alloc | apply pw_below_drewN | apply below_drew1) | exact HB.out)))); have n2_ := Aside0.mk (below_step (by repeat (first | (with_reducible first | exact HB.out | apply below_alloc | apply pw_below_drewN | apply below_drew1) | exact HB.out)) hb); clear HO_3; clear HB; have HO_3 := n0_; have HO201 := n1_; have HB := n2_; clear n0_ n1_ n2_; (try clear hb); (try clear hb2); (try clear hk); (try clear hi); (try clear ho0)) | ((with_reducible refine gate_dst (N := 5) rfl ?_); refine box_event ?hg (N := 5) ?hd (cs := #[.int .i64 0, .int .i64 0, .int .i64 0, .slice none 0 0]) (t := 46) ?hr ?_; (case hd => rfl); (case hg => rfl); (case hr => first | (go_simp; done) | (go_simp; rfl)); intro gb202 hg w7 hbox hb; have n0_ := Aside0.mk (Kd.R_below (Kd.R_elderB (by (with_reducible repeat (first | apply Kd.R_alloc | apply Kd.R_drewN | apply Kd.R_drew)); exact HO_3.out) gb202 (Nat.le_of_eq hg.symm)) hb); have n1_ := Aside0.mk (Kd.S_below (by (with_reducible repeat (first | apply Kd.S_alloc | apply Kd.S_drewN | apply Kd.S_drew)); exact HO201.out) hb); have n2_ := Aside0.mk (below_step (by repeat (first | (with_reducible first | exact HB.out | apply below_alloc | apply pw_below_drewN | apply below_drew1) | exact HB.out)) hb); have n3_ := Aside0.mk (hbox); have n4_ := Aside0.mk ((by rw [hg]; exact (below_size (by repeat (first | (with_reducible first | exact HB.out | apply below_alloc | apply pw_below_drewN | apply below_drew1) | exact HB.out))) : w.heap.size ≤ gb202)); have n5_ := Aside0.mk ((by rw [hg]; exact (below_size (by repeat (first | (with_reducible first | exact HB.out | apply below_alloc | apply pw_below_drewN | apply below_drew1) | exact HB.out))) : w.heap.size ≤ gb202)); clear HO_3; clear HO201; clear HB; have HO_3 := n0_; have HO201 := n1_; have HB := n2_; have BK202 := n3_; have GW202 := n4_; have GE202 := n5_; clear n0_ n1_ n2_ n3_ n4_ n5_; clear hb hbox hg; have hcz8_0 : w7.cell? ⟨gb202, 0, none⟩ = some (.int .i64 0) := (blk_cell BK202.out 0).trans rfl; have hcz8_1 : w7.cell? ⟨gb202, 1, none⟩ = some (.int .i64 0) := (blk_cell BK202.out 1).trans rfl; have hcz8_2 : w7.cell? ⟨gb202, 2, none⟩ = some (.int .i64 0) := (blk_cell BK202.out 2).trans rfl; have hcz8_3 : w7.cell? ⟨gb202, 3, none⟩ = some (.slice none 0 0) := (blk_cell BK202.out 3).trans rfl; have hfz8_0 := blk_frozen BK202.out 0; have hfz8_1 := blk_frozen BK202.out 1; have hfz8_2 := blk_frozen BK202.out 2; have hfz8_3 := blk_frozen BK202.out 3; obtain ⟨Ao9, co9, eo9⟩ := Kd.S_slice HO201.out; subst eo9) | ((with_reducible refine gate_store (t := 46) (p := 5) rfl ?_); refine store_event (t := 46) (p := 5) (v := ?vo_w10) (w1 := ((((w7.setCell ⟨gb202, 0, none⟩ (.int .i64 t196)).setCell ⟨gb202, 1, none⟩ (.int .i64 t197)).setCell ⟨gb202, 2, none⟩ (.int .i64 t198)).setCell ⟨gb202, 3, none⟩ (.slice Ao9 t199.length co9))) ?hg ?ho ?hn ?hr ?_; (case ho => rfl); (case hg => rfl); (case hn => rfl); (case hr => first | (go_simp; done) | (go_simp; rfl)); intro w10 hw; have n0_ : Aside0 (Kd.R k46 46 w10 w.heap.size (fun k_ => some k_ ≠ (.slice Ao9 t199.length co9 : Value).ownBlock ∧ k_ ≠ gb202) u3 x3_1) := ⟨(by rw [hw]; exact (by (with_reducible repeat (first | apply Kd.R_alloc | apply Kd.R_drewN | apply Kd.R_drew)); exact Kd.R_mono (Kd.R_far (p := ⟨gb202, 3, none⟩) (Kd.R_far (p := ⟨gb202, 2, none⟩) (Kd.R_far (p := ⟨gb202, 1, none⟩) (Kd.R_far (p := ⟨gb202, 0, none⟩) (Kd.R_mono HO_3.out (fun k_ hk => (⟨hk, hk.2⟩ : _ ∧ k_ ≠ gb202))) (fun _ hk => hk.2) (.int .i64 t196)) (fun _ hk => hk.2) (.int .i64 t197)) (fun _ hk => hk.2) (.int .i64 t198)) (fun _ hk => hk.2) (.slice Ao9 t199.length co9)) (fun _ hk => ⟨hk.1.1.2, hk.1.2⟩)))⟩; have n1_ : Aside0 (Kd.S k50 50 w10 w.heap.size (fun _ => True) (.slice Ao9 t199.length co9) t199) := ⟨(by rw [hw]; exact (by (with_reducible repeat (first | apply Kd.S_alloc | apply Kd.S_drewN | apply Kd.S_drew)); exact Kd.S_mono (Kd.S_far (p := ⟨gb202, 3, none⟩) (Kd.S_far (p := ⟨gb202, 2, none⟩) (Kd.S_far (p := ⟨gb202, 1, none⟩) (Kd.S_far (p := ⟨gb202, 0, none⟩) (Kd.S_types HO201.out BK202.out (by decide)) (fun _ hk => hk.2) (.int .i64 t196)) (fun _ hk => hk.2) (.int .i64 t197)) (fun _ hk => hk.2) (.int .i64 t198)) (fun _ hk => hk.2) (.slice Ao9 t199.length co9)) (fun _ hk => trivial)))⟩; have n2_ : Aside0 (w10.heap[gb202]? = some (.cells #[.int .i64 t196, .int .i64 t197, .int .i64 t198, .slice Ao9 t199.length co9] 46 (0, 0))) := ⟨(by rw [hw]; exact (by (with_reducible repeat (first | refine blk_drewN ?_ _ | refine blk_drew ?_ | refine blk_alloc ?_ _)); refine blk_put (cs := #[.int .i64 t196, .int .i64 t197, .int .i64 t198, .slice none 0 0]) ?_ 3 _ rfl; (with_reducible repeat (first | refine blk_drewN ?_ _ | refine blk_drew ?_ | refine blk_alloc ?_ _)); refine blk_put (cs := #[.int .i64 t196, .int .i64 t197, .int .i64 0, .slice none 0 0]) ?_ 2 _ rfl; (with_reducible repeat (first | refine blk_drewN ?_ _ | refine blk_drew ?_ | refine blk_alloc ?_ _)); refine blk_put (cs := #[.int .i64 t196, .int .i64 0, .int .i64 0, .slice none 0 0]) ?_ 1 _ rfl; (with_reducible repeat (first | refine blk_drewN ?_ _ | refine blk_drew ?_ | refine blk_alloc ?_ _)); refine blk_put (cs := #[.int .i64 0, .int .i64 0, .int .i64 0, .slice none 0 0]) ?_ 0 _ rfl; (with_reducible repeat (first | refine blk_drewN ?_ _ | refine blk_drew ?_ | refine blk_alloc ?_ _)); exact BK202.out))⟩; have n3_ : Aside0 (Below w.heap.size w w10) := ⟨(by rw [hw]; exact (by repeat (first | (with_reducible first | exact HB.out | apply below_alloc | apply pw_below_drewN | apply below_drew1 | refine below_set ?_ GE202.out) | exact HB.out)))⟩; clear hw; clear HO_3; clear HO201; clear BK202; clear HB; have HO_3 := n0_; have HO201 := n1_; have BK202 := n2_; have HB := n3_; clear n0_ n1_ n2_ n3_; have hcz11_0 : w10.cell? ⟨gb202, 0, none⟩ = some (.int .i64 t196) := (blk_cell BK202.out 0).trans rfl; have hcz11_1 : w10.cell? ⟨gb202, 1, none⟩ = some (.int .i64 t197) := (blk_cell BK202.out 1).trans rfl; have hcz11_2 : w10.cell? ⟨gb202, 2, none⟩ = some (.int .i64 t198) := (blk_cell BK202.out 2).trans rfl; have hcz11_3 : w10.cell? ⟨gb202, 3, none⟩ = some (.slice Ao9 t199.length co9) := (blk_cell BK202.out 3).trans rfl; have hfz11_0 := blk_frozen BK202.out 0; have hfz11_1 := blk_frozen BK202.out 1; have hfz11_2 := blk_frozen BK202.out 2; have hfz11_3 := blk_frozen BK202.out 3) | ((with_reducible refine gate_builtin (b := .append) (xs := #[.tmp 17, .tmp 19]) rfl ?_); at_builtin; refine Kd.R_append k46 (w0 := w) w.heap.size rfl (.tmp 17) (.tmp 19) 22 46 (.agg #[(.int .i64 0), (.int .i64 0), (.int .i64 0), (.slice none 0 0)]) 48 rfl Tryd.underlying22 info46 rfl (by decide) (by omega) u3 x3_1 (⟨t196, t197, t198, t199⟩ : S46) [.int .i64 t196, .int .i64 t197, .int .i64 t198, .slice Ao9 t199.length co9] (fun k_ => k_ ≠ gb202) (fun k_ => ((fun k_ => k_ ≠ gb202)) k_ ∧ some k_ ≠ (u3 : Value).ownBlock) rfl rfl ?aP (fun _ hk => hk) ?aF ?aO ?aB ?aS ?aL ?_; (case aP => exact k46_mkM _ _ _ (⟨t196, t197, t198, t199⟩ : S46) (Kd.R_mono (Kd.R_types (Kd.R_apart' ((Kd.S_R HO201.out)) (Kd.R_typed HO_3.out) (by decide)) BK202.out (by decide)) (fun k_ hk => ⟨hk.2, hk.1.2⟩))); (case aB => exact (by repeat (first | (with_reducible first | exact HB.out | apply below_alloc | apply pw_below_drewN | apply below_drew1 | refine below_set ?_ GE202.out) | exact HB.out))); (case aF => exact (fun k_ hk => Kd.freshB (g := gb202) (o := .cells #[.int .i64 t196, .int .i64 t197, .int .i64 t198, .slice Ao9 t199.length co9] 46 (0, 0)) (by (with_reducible repeat (first | refine blk_drewN ?_ _ | refine blk_drew ?_ | refine blk_alloc ?_ _)); exact BK202.out) k_ hk)); (case aO => exact (by (with_reducible repeat (first | apply Kd.R_alloc | apply Kd.R_drewN | apply Kd.R_drew)); exact Kd.R_mono HO_3.out (fun _ hk => hk.2))); (case aS => exact (below_size (by repeat (first | (with_reducible first | exact HB.out | apply below_alloc | apply pw_below_drewN | apply below_drew1 | refine below_set ?_ GE202.out) | exact HB.out)))); (case aL => have := LMc5.out; omega); intro v204 w12 ho hb hg hat; rw [← Ny203.out] at ho; have n0_ := Aside0.mk (blk_grown (g := gb202) (o := .cells #[.int .i64 t196, .int .i64 t197, .int .i64 t198, .slice Ao9 t199.length co9] 46 (0, 0)) (by (with_reducible repeat (first | refine blk_drewN ?_ _ | refine blk_drew ?_ | refine blk_alloc ?_ _)); exact BK202.out) hg (Kd.R_away HO_3.out (fun _ hk => hk.2))); have n1_ := Aside0.mk (hb); have n2_ := Aside0.mk (ho); clear BK202; clear HB; clear HO_3; clear HO201; have BK202 := n0_; have HB := n1_; have HO205 := n2_; clear n0_ n1_ n2_; clear ho hb hg hat))
      go_roundg k1
      case measure => have := HK1.out; omega
      case rel => exact ⟨(y203), (wrap64 (x4_1 + 1)), (by first | rfl | (simp; done) | (simp [*]; done)), H', ⟨by have := HK1.out; omega⟩, ⟨by (with_reducible repeat (first | apply Kd.R_alloc | apply Kd.R_drewN | apply Kd.R_drew)); exact Kd.R_mono HO205.out (fun _ hk => trivial)⟩, ⟨by repeat (first | (with_reducible first | exact HB.out | apply below_alloc | apply pw_below_drewN | apply below_drew1 | refine below_set ?_ GE202.out) | exact HB.out)⟩⟩
     ·rw [if_neg c5] at H
      exact absurd H (by simp)
    ·rw [if_neg c3] at H
     exact absurd H (by simp)
   ·rw [if_neg c2] at H
    have c2b0 : decide (x4_1 < (l0.length : Int)) = false := decide_eq_false c2
    clear c2
    obtain rfl := Option.some.inj H
    go_wp2
    go_ret
    exact ⟨_, by first | rfl | (simp [errW_none, errW_some] <;> rfl) | (simp [*, errW_none, errW_some] <;> rfl), by (with_reducible repeat (first | apply Kd.R_alloc | apply Kd.R_drewN | apply Kd.R_drew)); exact HO_3.out, by repeat (first | (with_reducible first | exact HB.out | apply below_alloc | apply pw_below_drewN | apply below_drew1) | exact HB.out)⟩
def fugueref00_CopyProgram.f (k : Nat) (a0_0 : Int) (l0_1 : List (S46)) : Option (Int × (List (S46))) := (fugueref00_CopyFuncs.f k l0_1).bind fun t208 => (some (a0_0, t208))
set_option maxHeartbeats 8000000 in
set_option maxRecDepth 100000 in
theorem fugueref00_CopyProgram.calls (k : Nat) (a0_0 : Int) (A0_1 : Option Addr) (c0_1 : Nat) (l0_1 : List (S46)) (r1 : Int) (r2 : List (S46)) (w : World) (hr0_1 : Kd.C k46 w A0_1 l0_1.length l0_1) (hc0_1 : l0_1.length ≤ c0_1) (h : fugueref00_CopyProgram.f k a0_0 l0_1 = some (r1, r2)) :
  Calls Tryd.prog 19 #[.agg #[.int .i64 a0_0, .slice A0_1 l0_1.length c0_1]] w fun e w' => ∃ v1_ : Value, e = .returned (.agg #[.int .i64 r1, v1_]) ∧ Kd.R k46 46 w' w.heap.size (fun _ => True) v1_ r2 ∧ Below w.heap.size w w' := by
 have hu24 := Tryd.underlying24
 have HR0_1 := Aside0.mk hr0_1
 have HC0_1 := Aside0.mk hc0_1
 clear hr0_1 hc0_1
 have HB := Aside0.mk (Below.refl w.heap.size w)
 have H : ((fugueref00_CopyFuncs.f k l0_1).bind fun t208 => (some (a0_0, t208))) = some (r1, r2) := h
 clear h
 replace H := Option.bind_eq_some_iff.mp H
 obtain ⟨t208, A20, H⟩ := H
 replace H : (some (a0_0, t208)) = some (r1, r2) := H
 have A2 := Aside0.mk A20
 clear A20
 simp only [Option.some.injEq, Prod.mk.injEq] at H
 obtain ⟨rfl, rfl⟩ := H
 go_enter Tryd.func19, Tryd.ntmps19
 try go_wp2_with (first | ((with_reducible refine gate_dst (N := 1) rfl ?_); refine box_event ?hg (N := 1) ?hd (cs := #[.int .i64 a0_0, .slice A0_1 l0_1.length c0_1]) (t := 24) ?hr ?_; (case hd => rfl); (case hg => rfl); (case hr => first | (go_simp; done) | (go_simp; rfl)); intro gb206 hg w3 hbox hb; have n0_ := Aside0.mk (below_step (by repeat (first | (with_reducible first | exact HB.out | apply below_alloc | apply pw_below_drewN | apply below_drew1) | exact HB.out)) hb); have n1_ := Aside0.mk (hbox); have n2_ := Aside0.mk ((by rw [hg]; exact (below_size (by repeat (first | (with_reducible first | exact HB.out | apply below_alloc | apply pw_below_drewN | apply below_drew1) | exact HB.out))) : w.heap.size ≤ gb206)); have n3_ := Aside0.mk ((by rw [hg]; exact (below_size (by repeat (first | (with_reducible first | exact HB.out | apply below_alloc | apply pw_below_drewN | apply below_drew1) | exact HB.out))) : w.heap.size ≤ gb206)); clear HB; have HB := n0_; have BK206 := n1_; have GW206 := n2_; have GE206 := n3_; clear n0_ n1_ n2_ n3_; clear hb hbox hg) | ((with_reducible refine gate_dst (N := 2) rfl ?_); refine box_event ?hg (N := 2) ?hd (cs := #[.int .i64 0, .slice none 0 0]) (t := 24) ?hr ?_; (case hd => rfl); (case hg => rfl); (case hr => first | (go_simp; done) | (go_simp; rfl)); intro gb207 hg w4 hbox hb; have n0_ := Aside0.mk (blk_below (g := gb206) (o := .cells #[.int .i64 a0_0, .slice A0_1 l0_1.length c0_1] 24 (0, 0)) (by (with_reducible repeat (first | refine blk_drewN ?_ _ | refine blk_drew ?_ | refine blk_alloc ?_ _)); exact BK206.out) hb); have n1_ := Aside0.mk (below_step (by repeat (first | (with_reducible first | exact HB.out | apply below_alloc | apply pw_below_drewN | apply below_drew1 | refine below_set ?_ GE206.out) | exact HB.out)) hb); have n2_ := Aside0.mk (hbox); have n3_ := Aside0.mk ((by rw [hg]; exact (below_size (by repeat (first | (with_reducible first | exact HB.out | apply below_alloc | apply pw_below_drewN | apply below_drew1 | refine below_set ?_ GE206.out) | exact HB.out))) : w.heap.size ≤ gb207)); have n4_ := Aside0.mk ((by rw [hg]; exact (below_size (by repeat (first | (with_reducible first | exact HB.out | apply below_alloc | apply pw_below_drewN | apply below_drew1 | refine below_set ?_ GE206.out) | exact HB.out))) : w.heap.size ≤ gb207)); have n5_ := Aside0.mk ((by rw [hg]; exact Nat.ne_of_lt (blk_lt (g := gb206) (o := .cells #[.int .i64 a0_0, .slice A0_1 l0_1.length c0_1] 24 (0, 0)) (by (with_reducible repeat (first | refine blk_drewN ?_ _ | refine blk_drew ?_ | refine blk_alloc ?_ _)); exact BK206.out)) : gb206 ≠ gb207)); have n6_ := Aside0.mk ((by rw [hg]; exact Nat.ne_of_gt (blk_lt (g := gb206) (o := .cells #[.int .i64 a0_0, .slice A0_1 l0_1.length c0_1] 24 (0, 0)) (by (with_reducible repeat (first | refine blk_drewN ?_ _ | refine blk_drew ?_ | refine blk_alloc ?_ _)); exact BK206.out)) : gb207 ≠ gb206)); clear BK206; clear HB; have BK206 := n0_; have HB := n1_; have BK207 := n2_; have GW207 := n3_; have GE207 := n4_; have NB206_207 := n5_; have NB207_206 := n6_; clear n0_ n1_ n2_ n3_ n4_ n5_ n6_; clear hb hbox hg))
 have n0_ := Aside0.mk (blk_drew BK206.out)
 have n1_ := Aside0.mk (blk_drew BK207.out)
 have n2_ := Aside0.mk (below_drew1 HB.out)
 clear BK206
 clear BK207
 clear HB
 have BK206 := n0_
 have BK207 := n1_
 have HB := n2_
 clear n0_ n1_ n2_
 refine start_ (n := 7) (S := fun w' => w'.cell? ⟨gb206, 0, none⟩ = some (.int .i64 a0_0) ∧ w'.cell? ⟨gb206, 1, none⟩ = some (.slice A0_1 l0_1.length c0_1)) (ds := []) #[false, false, false, false, false, false, false] (by kernel_rfl) rfl rfl ⟨(blk_cell BK206.out 0).trans rfl, (blk_cell BK206.out 1).trans rfl⟩ (fun hHeld => ?_)
 generalize w4.drew = w5 at BK206 BK207 HB hHeld ⊢
 refine pq 0 (some 3) (v := ?_) (a' := ?_) rfl rfl (by kernel_rfl) (fun _ _ _ h => h) (Or.inl ⟨by rfl, ?_⟩) ?_ ?_
 rotate_left; (intro w'; go_simp; with_reducible rfl); rotate_left; (simp only [Act.put, pn, i64_w, i32_w]; rfl)
 refine pq 2 (some 5) (v := ?_) (a' := ?_) rfl rfl (by kernel_rfl) (fun _ _ _ h => h) (Or.inl ⟨by rfl, ?_⟩) ?_ ?_
 rotate_left; (intro w'; go_simp; with_reducible rfl); rotate_left; (simp only [Act.put, pn, i64_w, i32_w]; rfl)
 refine pt 1 (some 4) (v := ?_) (a' := ?_) rfl rfl (by kernel_rfl) (fun _ _ _ h => h) (Or.inl ⟨by rfl, ?_⟩) hHeld ?_ ?_
 rotate_left; (rintro w' ⟨s0, s1⟩; go_simp; with_reducible rfl); rotate_left; (simp only [Act.put, pn, i64_w, i32_w]; rfl)
 refine pt 3 (some 6) (v := ?_) (a' := ?_) rfl rfl (by kernel_rfl) (fun _ _ _ h => h) (Or.inl ⟨by rfl, ?_⟩) hHeld ?_ ?_
 rotate_left; (rintro w' ⟨s0, s1⟩; go_simp; with_reducible rfl); rotate_left; (simp only [Act.put, pn, i64_w, i32_w]; rfl)
 refine one_ (i := 4) (N := some 7) #[true, true, true, true, true, false, false] rfl rfl (by kernel_rfl) (by decide) (fun K hK => ?_)
 refine goes_ Tryd.func37 (by kernel_rfl) rfl #[.slice A0_1 l0_1.length c0_1] (by rfl) rfl rfl (by (try simp only [List.map_toArray, List.map_cons, List.map_nil]); first | done | rfl | (simp only [List.length_drop, List.length_take]; rfl)) ?_
 with_reducible refine (fugueref00_CopyFuncs.calls k _ _ l0_1 t208 _ ?side1 ?side2 A2.out).mono ?_
 (case side1 => repeat (first | exact (Kd.C_below HR0_1.out HB.out) | (with_reducible refine Kd.C_alloc ?_ _) | (with_reducible refine Kd.C_drewN ?_ _) | (with_reducible refine Kd.C_drew ?_)))
 (case side2 => exact HC0_1.out)
 rintro e w6 ⟨v209, rfl, ho0, hb⟩
 refine ⟨_, rfl, ?_⟩
 have n0_ := Aside0.mk (Kd.R_lower ho0 (below_size (by repeat (first | (with_reducible first | exact HB.out | apply below_alloc | apply pw_below_drewN | apply below_drew1 | refine below_set ?_ GE206.out | refine below_set ?_ GE207.out) | exact HB.out))))
 have n1_ := Aside0.mk (blk_below (g := gb206) (o := .cells #[.int .i64 a0_0, .slice A0_1 l0_1.length c0_1] 24 (0, 0)) (by (with_reducible repeat (first | refine blk_drewN ?_ _ | refine blk_drew ?_ | refine blk_alloc ?_ _)); exact BK206.out) hb)
 have n2_ := Aside0.mk (blk_below (g := gb207) (o := .cells #[.int .i64 0, .slice none 0 0] 24 (0, 0)) (by (with_reducible repeat (first | refine blk_drewN ?_ _ | refine blk_drew ?_ | refine blk_alloc ?_ _)); exact BK207.out) hb)
 have n3_ := Aside0.mk (below_step (by repeat (first | (with_reducible first | exact HB.out | apply below_alloc | apply pw_below_drewN | apply below_drew1 | refine below_set ?_ GE206.out | refine below_set ?_ GE207.out) | exact HB.out)) hb)
 clear BK206
 clear BK207
 clear HB
 have HO210 := n0_
 have BK206 := n1_
 have BK207 := n2_
 have HB := n3_
 clear n0_ n1_ n2_ n3_
 (try clear hb)
 (try clear hb2)
 (try clear hk)
 (try clear hi)
 (try clear ho0)
 obtain ⟨Ao7, co7, eo7⟩ := Kd.R_slice HO210.out
 (first | subst eo7 | (injection eo7 with f1_ f2_ f3_; have f4_ := f1_.symm; have f5_ := f3_.symm; clear f1_ f2_ f3_; subst f4_; subst f5_))
 refine hK.out _ _ ⟨(blk_cell BK206.out 0).trans rfl, (blk_cell BK206.out 1).trans rfl⟩ (fun hHeld => ?_)
 clear hK K
 refine norm_ (a' := ?_) ?_ ?_
 rotate_left
 ·show Act.put _ (some 7) _ = _
  simp only [Act.put, pn, i64_w, i32_w]
  rfl
 refine pq 5 (some 8) (v := ?_) (a' := ?_) rfl rfl (by kernel_rfl) (fun _ _ _ h => h) (Or.inl ⟨by rfl, ?_⟩) ?_ ?_
 rotate_left; (intro w'; go_simp; with_reducible rfl); rotate_left; (simp only [Act.put, pn, i64_w, i32_w]; rfl)
 refine one_ (i := 6) (N := none) #[true, true, true, true, true, true, true] rfl rfl (by kernel_rfl) (by decide) (fun K hK => ?_)
 have hs8 : w6.cell? ⟨gb207, 0, none⟩ = some (.int .i64 0) := (blk_cell BK207.out 0).trans rfl
 have hfs8 := blk_frozen BK207.out 0
 have hns8_0 := NB206_207.out
 have hms8_0 := NB207_206.out
 have hs9 : w6.cell? ⟨gb207, 1, none⟩ = some (.slice none 0 0) := (blk_cell BK207.out 1).trans rfl
 have hfs9 := blk_frozen BK207.out 1
 have hns9_0 := NB206_207.out
 have hms9_0 := NB207_206.out
 refine skip_ (w1 := ?_) (by rfl) rfl ?_ ?_
 rotate_left
 ·go_simp
  rfl
 refine hK.out _ _ ⟨((cell_far (p := ⟨gb207, _, none⟩) NB206_207.out _).trans (((cell_far (p := ⟨gb207, _, none⟩) NB206_207.out _).trans (hHeld.1)))), ((cell_far (p := ⟨gb207, _, none⟩) NB206_207.out _).trans (((cell_far (p := ⟨gb207, _, none⟩) NB206_207.out _).trans (hHeld.2))))⟩ (fun hHeld => ?_)
 clear hK K
 refine done_ (by kernel_rfl) ?_
 try go_wp2
 refine bodyPost_ret (results_cell_row rfl _ _ gb207 24 #[.int .i64 a0_0, .slice Ao7 t208.length co7] (0, 0) _ rfl (by (with_reducible repeat (first | refine blk_drewN ?_ _ | refine blk_drew ?_ | refine blk_alloc ?_ _)); refine blk_put (cs := #[.int .i64 a0_0, .slice none 0 0]) ?_ 1 _ rfl; (with_reducible repeat (first | refine blk_drewN ?_ _ | refine blk_drew ?_ | refine blk_alloc ?_ _)); refine blk_put (cs := #[.int .i64 0, .slice none 0 0]) ?_ 0 _ rfl; (with_reducible repeat (first | refine blk_drewN ?_ _ | refine blk_drew ?_ | refine blk_alloc ?_ _)); exact BK207.out) Tryd.underlying24 rfl (by kernel_rfl)) rfl ?_
 exact ⟨_, by first | rfl | (simp [errW_none, errW_some] <;> rfl) | (simp [*, errW_none, errW_some] <;> rfl), by (with_reducible repeat (first | apply Kd.R_alloc | apply Kd.R_drewN | apply Kd.R_drew)); exact Kd.R_mono (Kd.R_far (p := ⟨gb207, 1, none⟩) (Kd.R_far (p := ⟨gb207, 0, none⟩) (Kd.R_types HO210.out BK207.out (by decide)) (fun _ hk => hk.2) (.int .i64 a0_0)) (fun _ hk => hk.2) (.slice Ao7 t208.length co7)) (fun _ hk => trivial), by repeat (first | (with_reducible first | exact HB.out | apply below_alloc | apply pw_below_drewN | apply below_drew1 | refine below_set ?_ GE206.out | refine below_set ?_ GE207.out) | exact HB.out)⟩
def fugueref00_CopyBytes.l0 : Nat → List Int → List Int → Int → Option (List Int)
 | 0, _, _, _ => none
 | k + 1, x0, x3, x4 => if x4 < (x0.length : Int) then (if 0 ≤ x4 then (if x3.length < 140737488355328 then (fugueref00_CopyBytes.l0 k x0 (x3 ++ [rd x0 x4]) (wrap64 (x4 + 1))) else (none)) else (none)) else (some x3)
def fugueref00_CopyBytes.f (k : Nat) (l0 : List Int) : Option (List Int) := fugueref00_CopyBytes.l0 k l0 ([] : List Int) 0
set_option maxHeartbeats 8000000 in
set_option maxRecDepth 100000 in
theorem fugueref00_CopyBytes.calls (k : Nat) (A0 : Option Addr) (c0 : Nat) (l0 : List Int) (r : List Int) (w : World) (hr0 : Kd.C (Kd.int .u8) w A0 l0.length l0) (hc0 : l0.length ≤ c0) (h : fugueref00_CopyBytes.f k l0 = some r) :
  Calls Tryd.prog 27 #[.slice A0 l0.length c0] w fun e w' => ∃ v0_ : Value, e = .returned (v0_) ∧ Kd.R (Kd.int .u8) 5 w' w.heap.size (fun _ => True) v0_ r ∧ Below w.heap.size w w' := by
 have HR0 := Aside0.mk hr0
 have HC0 := Aside0.mk hc0
 clear hr0 hc0
 have HB := Aside0.mk (Below.refl w.heap.size w)
 have H : (fugueref00_CopyBytes.l0 k l0 ([] : List Int) 0) = some r := h
 clear h
 have H' := Aside0.mk H
 clear H
 go_enter Tryd.func27, Tryd.ntmps27
 go_wp2
 go_loopg [3, 4] k (fun kq v3 v4 w' => ∃ (x3_1 : List Int) (x4_1 : Int), v4 = .int .i64 x4_1 ∧ Aside0 (fugueref00_CopyBytes.l0 kq l0 x3_1 x4_1 = some r) ∧ Aside0 (kq ≤ k) ∧ Aside0 (Kd.R (Kd.int .u8) 5 w' w.heap.size (fun _ => True) v3 x3_1) ∧ Aside0 (Below w.heap.size w w'))
 case atStart => exact ⟨(([] : List Int)), (0), (by first | rfl | (simp; done) | (simp [*]; done)), H', ⟨Nat.le_refl _⟩, ⟨by first | exact Kd.R_nil _ _ _ _ _ | exact Kd.N_nil _ _ _ _ _ | exact Kd.V_nil _ _ _ _ _ | exact Kd.Q_nil _ _ _ _ _ | exact Kd.S_nil _ _ _ _ _⟩, ⟨by repeat (first | (with_reducible first | exact HB.out | apply below_alloc | apply pw_below_drewN | apply below_drew1) | exact HB.out)⟩⟩
 case round =>
  clear H'
  obtain ⟨x3_1, x4_1, rfl, HA, HK1, HO_3, HB⟩ := hrel
  cases gk with
  | zero => exact absurd HA.out (by simp [fugueref00_CopyBytes.l0])
  | succ k1 =>
   have H := HA.out
   clear HA
   simp only [fugueref00_CopyBytes.l0] at H
   by_cases c2 : x4_1 < (l0.length : Int)
   ·rw [if_pos c2] at H
    have c2b0 : decide (x4_1 < (l0.length : Int)) = true := decide_eq_true c2
    clear c2
    by_cases c3 : 0 ≤ x4_1
    ·rw [if_pos c3] at H
     have c3b0 : decide (0 ≤ x4_1) = true := decide_eq_true c3
     clear c3
     by_cases c4 : x3_1.length < 140737488355328
     ·rw [if_pos c4] at H
      have LMc4 := Aside0.mk c4
      clear c4
      obtain ⟨y214, hy214⟩ : ∃ y_ : List Int, y_ = (x3_1 ++ [rd l0 x4_1]) := ⟨_, rfl⟩
      replace H : (fugueref00_CopyBytes.l0 k1 l0 y214 (wrap64 (x4_1 + 1))) = some r := by first | (rw [hy214]; with_reducible exact H) | (have H2_ := (Option.bind_some _ _).symm.trans H; rw [hy214]; with_reducible exact H2_) | (have H2_ := (Option.bind_some _ _).symm.trans H; with_reducible exact H2_) | with_reducible exact H | (rw [hy214]; exact H) | exact H
      have Ny214 := Aside0.mk hy214
      clear hy214
      have H' := Aside0.mk H
      clear H
      have p213 : 0 ≤ (x4_1 : Int) := of_decide_eq_true (by first | (with_reducible assumption) | assumption)
      have q213 : x4_1 < (l0.length : Int) := of_decide_eq_true (by first | (with_reducible assumption) | assumption)
      obtain ⟨ad213, e213, hx213_0⟩ := Kd.at_int HR0.out x4_1 p213 q213
      cases e213
      replace hx213_0 := (HB.out.cell (World.block_lt_of_cell? w _ hx213_0)).trans hx213_0
      replace p213 := eq_true p213
      replace q213 := eq_true q213
      go_wp2_with (first | ((with_reducible refine gate_builtin (b := .append) (xs := #[.tmp 11, .tmp 16]) rfl ?_); at_builtin; refine Kd.R_append (Kd.int .u8) (w0 := w) w.heap.size rfl (.tmp 11) (.tmp 16) 33 5 (.int .u8 0) 1 rfl Tryd.underlying33 info5 rfl (by decide) (by omega) u3 x3_1 (rd l0 x4_1) [.int .u8 (rd l0 x4_1)] (fun _ => True) (fun _ => False) rfl rfl ?aP (fun _ hk => hk.elim) ?aF ?aO ?aB ?aS ?aL ?_; (case aP => exact rfl); (case aB => exact (by repeat (first | (with_reducible first | exact HB.out | apply below_alloc | apply pw_below_drewN | apply below_drew1) | exact HB.out))); (case aF => exact (fun _ _ => trivial)); (case aO => exact (by (with_reducible repeat (first | apply Kd.R_alloc | apply Kd.R_drewN | apply Kd.R_drew)); exact HO_3.out)); (case aS => exact (below_size (by repeat (first | (with_reducible first | exact HB.out | apply below_alloc | apply pw_below_drewN | apply below_drew1) | exact HB.out)))); (case aL => have := LMc4.out; omega); intro v215 w5 ho hb hg hat; rw [← Ny214.out] at ho; have n0_ := Aside0.mk (hb); have n1_ := Aside0.mk (ho); clear HB; clear HO_3; have HB := n0_; have HO216 := n1_; clear n0_ n1_; clear ho hb hg hat))
      go_roundg k1
      case measure => have := HK1.out; omega
      case rel => exact ⟨(y214), (wrap64 (x4_1 + 1)), (by first | rfl | (simp; done) | (simp [*]; done)), H', ⟨by have := HK1.out; omega⟩, ⟨by (with_reducible repeat (first | apply Kd.R_alloc | apply Kd.R_drewN | apply Kd.R_drew)); exact HO216.out⟩, ⟨by repeat (first | (with_reducible first | exact HB.out | apply below_alloc | apply pw_below_drewN | apply below_drew1) | exact HB.out)⟩⟩
     ·rw [if_neg c4] at H
      exact absurd H (by simp)
    ·rw [if_neg c3] at H
     exact absurd H (by simp)
   ·rw [if_neg c2] at H
    have c2b0 : decide (x4_1 < (l0.length : Int)) = false := decide_eq_false c2
    clear c2
    obtain rfl := Option.some.inj H
    go_wp2
    go_ret
    exact ⟨_, by first | rfl | (simp [errW_none, errW_some] <;> rfl) | (simp [*, errW_none, errW_some] <;> rfl), by (with_reducible repeat (first | apply Kd.R_alloc | apply Kd.R_drewN | apply Kd.R_drew)); exact HO_3.out, by repeat (first | (with_reducible first | exact HB.out | apply below_alloc | apply pw_below_drewN | apply below_drew1) | exact HB.out)⟩
end Go.Proofs.YteonppgdmhakoaaDoor.PC
