/- The reader of package sums: its door (recover), and Decode. No conditions. -/
import Derived.Test.YtgemcomcjojjbaaHReadD
import Derived.Test.YtgemcomcjojjbaaHCheck
import Derived.Defers
import Derived.Recover
namespace Go.Proofs.Ytgemcomcjojjbaa.PS
open Go.RowKit Go.Proofs.YtgemcomcjojjbaaW.PrintWords Go.Proofs.YtgemcomcjojjbaaW.PrintLast Go.Proofs.YtgemcomcjojjbaaW.PrintMore
set_option linter.unusedVariables false
set_option linter.unusedSimpArgs false

theorem catch_idle (p : Addr) (w : World) : CallsD Try.prog 40 #[.pointer (some p)] .returning w fun e u' w' => e = .returned (.tuple #[]) ∧ u' = .returning ∧ w' = w := by
  refine callsD_of_wpS Try.func40 rfl fun c₀ cs hu => ?_
  apply wpS_seq
  apply wpS_region
  simp [wpOpsS, go_sem, recoverD, hu, Try.ntmps40, Exit.thenS]
  apply wpS_seq
  apply wpS_region
  simp [wpOpsS, go_sem, Exit.thenS]
  refine wpS_cond (t := false) (by simp [Act.eval, Array.replicate]) ?_
  simp only [Bool.false_eq_true, if_false]
  refine wpS_of_wp (wp_skip ?_)
  cases c₀
  simp_all [bodyPostS, results, Try.results40]
theorem catch_wrong (ge : Nat) (x : Int) (w : World) (hb : w.heap[ge]? = some (.cells #[.int .i64 x] 35 (0, 0))) :
    CallsD Try.prog 40 #[.pointer (some ⟨ge, 0, none⟩)] (.panicking ({ v := wrongV, recovered := false } :: [])) w fun e u' w' => e = .returned (.tuple #[]) ∧ u' = .panicking ({ v := wrongV, recovered := true } :: []) ∧ w' = (w.alloc (.cells #[] 74)).setCell ⟨ge, 0, none⟩ (.int .i64 90) := by
  have hc2 : (w.alloc (.cells #[] 74)).cell? ⟨ge, 0, none⟩ = some (.int .i64 x) := (blk_cell (blk_alloc hb _) 0).trans rfl
  have hz2 := blk_frozen (blk_alloc hb (.cells #[] 74)) 0
  clear hb
  have hta : ∀ w : World, (Instr.typeAssert (.iface 74 (.agg #[])) 20 74 true).run Try.prog w = .ok (.tuple #[.agg #[], .bool true]) w := fun w => by kernel_rfl
  refine callsD_of_wpS Try.func40 rfl fun c₀ cs hu => ?_
  apply wpS_seq
  apply wpS_region
  simp [wpOpsS, go_sem, recoverD, hu, Try.ntmps40, Exit.thenS, wrongV]
  refine wpS_of_wp ?_
  generalize hQ : (fun e a' w' => bodyPostS Try.prog Try.f40 c₀ _ _ e a' _ w') = Q
  show Code.wp Try.prog _ _ ⟨#[.pointer (some ⟨ge, 0, none⟩), .iface 74 (.agg #[]), undef, undef, .iface 74 (.agg #[]), undef, undef, undef, undef, undef, undef, undef, undef, undef, undef], []⟩ _
  go_wp2
  subst hQ
  cases c₀
  simp_all [bodyPostS, results, Try.results40]
/-- What read leaves. -/
def ReadPost (Wz W : World) (gl : Nat) (D : Option (List S31 × List Int)) (e : Ending) (w' : World) : Prop :=
  (∀ l, D = some (l, []) → e = .returned (.int .i64 0) ∧ ∃ v, w'.heap[gl]? = some (.cells #[v] 46 (0, 0)) ∧ k31.R 31 w' W.heap.size (fun k => W.heap.size ≤ k) v l) ∧
  ((∀ l, D ≠ some (l, [])) → e = .returned (.int .i64 90)) ∧ Below Wz.heap.size Wz w'
set_option maxHeartbeats 8000000 in
set_option maxRecDepth 100000 in
theorem read35 (gs gl : Nat) (fs : List S28) (F : Option Addr) (cf : Nat) (xs : List Int) (A : Option Addr) (c : Nat) (Wz W : World) (hWz : Below Wz.heap.size Wz W) (hgl : Wz.heap.size ≤ gl) (hs : W.heap[gs]? = some (.cells #[.slice F fs.length cf] 45 (0, 0))) (hl : W.heap[gl]? = some (.cells #[.slice none 0 0] 46 (0, 0))) (hF : k28.C Wz F fs.length fs) (hfl : fs.length ≤ 2400000000000) (hx : kB.C Wz A xs.length xs) (hc : xs.length ≤ c) (hsh : fs.all shapeF = true) (hr : ∀ x ∈ xs, 0 ≤ x ∧ x ≤ 255) :
    Calls Try.prog 34 #[.slice A xs.length c, .func (Fn.func 35) #[] #[.pointer (some ⟨gs, 0, none⟩), .pointer (some ⟨gl, 0, none⟩)]] W fun e w' => ReadPost Wz W gl (decL fs xs) e w' := by
  have hmf : ∀ (fn : Fn) (first cap : Array Value) (w : World), (Instr.makeFunc fn first cap).run Try.prog w = .ok (.func fn first cap) w := fun _ _ _ _ => rfl
  have HD1 : Aside0 (∀ (g : Nat) (w : World), Below W.heap.size W w → W.heap.size ≤ g → w.heap[g]? = some (.cells #[.slice A xs.length c] 77 (0, 0)) → Calls Try.prog 35 #[.pointer (some ⟨g, 0, none⟩), .pointer (some ⟨gs, 0, none⟩), .pointer (some ⟨gl, 0, none⟩)] w fun e w' => DecPost Wz w g gl (decL fs xs) e w') := ⟨fun g w hB hg hb => dec1_any g gs gl fs F cf xs A c Wz w (hWz.trans (hB.mono hWz.size)) (Nat.le_trans hWz.size hg) hgl (blk_below hs hB) hb (blk_below hl hB) hF hfl hx hc hsh hr⟩
  have HWz := Aside0.mk hWz
  have HGL := Aside0.mk hgl
  have HGll := Aside0.mk (blk_lt hl)
  clear hs hl hF hfl hx hc hsh hr hWz hgl
  have HMt := Aside0.mk must_true
  have HMf := Aside0.mk must_false
  have HB0 := Aside0.mk (Below.refl W.heap.size W)
  go_enter_defers Try.func34, Try.ntmps34
  go_wp2_with (first | ((with_reducible refine gate_dst (N := 4) rfl ?_); refine box_event ?hg (N := 4) ?hd (cs := #[.int .i64 0]) (t := 35) ?hr ?_; (case hd => rfl); (case hg => rfl); (case hr => first | (go_simp; done) | (go_simp; rfl)); intro ge hg w4 hbox hb; have BK4 := Aside0.mk hbox; have HB4 := Aside0.mk hb; have G4 : Aside0 (W.heap.size ≤ ge) := (by exact ⟨by omega⟩); clear hg hbox hb) | ((with_reducible refine gate_dst (N := 9) rfl ?_); refine box_event ?hg (N := 9) ?hd (cs := #[.slice A xs.length c]) (t := 77) ?hr ?_; (case hd => rfl); (case hg => rfl); (case hr => first | (go_simp; done) | (go_simp; rfl)); intro g9 hg w9 hbox hb; have BK9 := Aside0.mk hbox; have G9 : Aside0 (W.heap.size ≤ g9) := ⟨by have := HB4.out.size; omega⟩; have BK4_ := Aside0.mk (blk_below BK4.out hb); have HB9 := Aside0.mk (HB4.out.trans (hb.mono HB4.out.size)); clear HB4 BK4 hg hbox hb; have BK4 := BK4_; clear BK4_))
  refine (HD1.out g9 _ HB9.out G9.out BK9.out).mono ?_
  rintro e w' ⟨hyes, hno, hBz, hKp⟩
  have HBz := Aside0.mk hBz
  have K4 := Aside0.mk (hKp.blk BK4.out (blk_ne BK4.out BK9.out (by decide)) (fun e => by have := HGll.out; have := G4.out; injection e with e; omega))
  clear hBz hKp HD1
  cases hD : decL fs xs with
  | none =>
    obtain rfl := hno hD
    clear hyes hno
    go_wp2_with fail
    refine leaves_cons (f := 40) (args := #[.pointer (some ⟨ge, 0, none⟩)]) (by simp) (by simp [go_sem]) ?_
    refine (catch_wrong ge 0 w' K4.out).mono ?_
    rintro e u' w'' ⟨rfl, rfl, hw⟩
    have hcR : w''.cell? ⟨ge, 0, none⟩ = some (.int .i64 90) := by rw [hw]; exact (blk_cell ((blk_set (blk_alloc K4.out _) 0 _).trans rfl) 0).trans rfl
    have hBR : Aside0 (Below Wz.heap.size Wz w'') := ⟨by rw [hw]; exact below_set (HBz.out.alloc HBz.out.size _) (Nat.le_trans HWz.out.size G4.out)⟩
    clear hw
    have HPo : Aside0 (ReadPost Wz W gl (decL fs xs) (.returned (.int .i64 90)) w'') := ⟨fun l h => (by rw [hD] at h; cases h), fun _ => rfl, hBR.out⟩
    simp [Leaves, settle, results, Try.results34, go_sem, hcR]
    exact HPo.out
  | some q =>
    obtain ⟨l, rest⟩ := q
    obtain ⟨rfl, v, A9, c9, hvl, hR, hbk⟩ := hyes l rest hD
    have HVl := Aside0.mk hvl
    have HR := Aside0.mk hR
    have KB := Aside0.mk hbk
    have HSz := Aside0.mk HB9.out.size
    clear hyes hno hvl hR hbk
    have hc9 : w'.cell? ⟨g9, 0, none⟩ = some (.slice A9 rest.length c9) := (blk_cell KB.out 0).trans rfl
    cases rest with
    | nil =>
      have hfe := blk_frozen K4.out 0
      have hce : w'.cell? ⟨ge, 0, none⟩ = some (.int .i64 0) := (blk_cell K4.out 0).trans rfl
      have hln : ((([] : List Int).length : Int) == 0) = true := rfl
      go_wp2_with (first | (go_at_call 41; refine (HMt.out _).mono ?_; rintro e w' ⟨rfl, rfl⟩))
      refine leaves_cons (f := 40) (args := #[.pointer (some ⟨ge, 0, none⟩)]) (by simp) (by simp [go_sem]) ?_
      refine (catch_idle ⟨ge, 0, none⟩ _).mono ?_
      rintro e u' w'' ⟨rfl, rfl, hw⟩
      have hcR : w''.cell? ⟨ge, 0, none⟩ = some (.int .i64 0) := by rw [hw]; exact (blk_cell ((blk_set K4.out 0 _).trans rfl) 0).trans rfl
      have hgl : gl ≠ ge := fun e => by have h1 := HGll.out; have h2 := G4.out; omega
      have HPo : Aside0 (ReadPost Wz W gl (decL fs xs) (.returned (.int .i64 0)) w'') := ⟨fun l' h => (by
        rw [hD] at h
        obtain rfl : l = l' := by simpa using h
        exact ⟨rfl, v, (by rw [hw]; exact blk_far HVl.out hgl _), (by rw [hw]; exact Kd.R_mono (Kd.R_lower (Kd.R_set HR.out K4.out (by decide) 0 _) HSz.out) (fun k hk => Nat.le_trans HSz.out hk))⟩), fun h => absurd hD (h l), by rw [hw]; exact below_set HBz.out (Nat.le_trans HWz.out.size G4.out)⟩
      clear hw hgl
      simp [Leaves, settle, results, Try.results34, go_sem, hcR]
      exact HPo.out
    | cons r rs =>
      have hln : ((((r :: rs).length : Nat) : Int) == 0) = false := by simp; omega
      go_wp2_with (first | (go_at_call 41; refine (HMf.out _).mono ?_; rintro e w' ⟨rfl, rfl⟩))
      refine leaves_cons (f := 40) (args := #[.pointer (some ⟨ge, 0, none⟩)]) (by simp) (by simp [go_sem]) ?_
      refine (catch_wrong ge 0 _ K4.out).mono ?_
      rintro e u' w'' ⟨rfl, rfl, hw⟩
      have hcR : w''.cell? ⟨ge, 0, none⟩ = some (.int .i64 90) := by rw [hw]; exact (blk_cell ((blk_set (blk_alloc K4.out _) 0 _).trans rfl) 0).trans rfl
      have hBR : Aside0 (Below Wz.heap.size Wz w'') := ⟨by rw [hw]; exact below_set (HBz.out.alloc HBz.out.size _) (Nat.le_trans HWz.out.size G4.out)⟩
      clear hw
      have HPo : Aside0 (ReadPost Wz W gl (decL fs xs) (.returned (.int .i64 90)) w'') := ⟨fun l' h => (by rw [hD] at h; simp at h), fun _ => rfl, hBR.out⟩
      simp [Leaves, settle, results, Try.results34, go_sem, hcR]
      exact HPo.out
/-- What Decode answers. -/
def decR (fs : List S28) (xs : List Int) : List S31 × Int := if fs.all shapeF = true then (match decL fs xs with
  | some (l, []) => (l, 0)
  | _ => ([], 90)) else ([], 1)
theorem decR_yes {fs : List S28} {xs : List Int} {l : List S31} (h : fs.all shapeF = true) (h' : decL fs xs = some (l, [])) : decR fs xs = (l, 0) := by unfold decR; rw [if_pos h, h']
theorem decR_no {fs : List S28} {xs : List Int} (h : fs.all shapeF = true) (h' : ∀ l, decL fs xs ≠ some (l, [])) : decR fs xs = ([], 90) := by
  unfold decR
  rw [if_pos h]
  split
  · rename_i l e; exact absurd e (h' l)
  · rfl
theorem decR_not {fs : List S28} {xs : List Int} (h : fs.all shapeF = false) : decR fs xs = ([], 1) := by unfold decR; rw [if_neg (by rw [h]; decide)]
set_option maxHeartbeats 8000000 in
set_option maxRecDepth 100000 in
theorem dec_any (fs : List S28) (xs : List Int) (F : Option Addr) (cf : Nat) (A : Option Addr) (c : Nat) (W : World) (hF : k28.C W F fs.length fs) (hfl : fs.length ≤ 2400000000000) (hx : kB.C W A xs.length xs) (hc : xs.length ≤ c) (hr : ∀ x ∈ xs, 0 ≤ x ∧ x ≤ 255) :
    Calls Try.prog 17 #[.slice F fs.length cf, .slice A xs.length c] W fun e w' => ∃ v, e = .returned (.tuple #[v, .int .i64 (decR fs xs).2]) ∧ Kd.N k31 31 w' W.heap.size (fun k => W.heap.size ≤ k) v (decR fs xs).1 ∧ Below W.heap.size W w' := by
  have hmf : ∀ (fn : Fn) (first cap : Array Value) (w : World), (Instr.makeFunc fn first cap).run Try.prog w = .ok (.func fn first cap) w := fun _ _ _ _ => rfl
  have HSh : Aside0 (∀ w, Below W.heap.size W w → Calls Try.prog 32 #[.slice F fs.length cf] w fun e w' => e = .returned (.bool (fs.all shapeF)) ∧ Below w.heap.size w w') := ⟨fun w hB => shapes_any fs F cf w (Kd.C_below hF hB)⟩
  have HRd : Aside0 (fs.all shapeF = true → ∀ (gs gl : Nat) (w : World), Below W.heap.size W w → W.heap.size ≤ gl → w.heap[gs]? = some (.cells #[.slice F fs.length cf] 45 (0, 0)) → w.heap[gl]? = some (.cells #[.slice none 0 0] 46 (0, 0)) → Calls Try.prog 34 #[.slice A xs.length c, .func (Fn.func 35) #[] #[.pointer (some ⟨gs, 0, none⟩), .pointer (some ⟨gl, 0, none⟩)]] w fun e w' => ReadPost W w gl (decL fs xs) e w') := ⟨fun hsh gs gl w hB hgl hs hl => read35 gs gl fs F cf xs A c W w hB hgl hs hl hF hfl hx hc hsh hr⟩
  have HB0 := Aside0.mk (Below.refl W.heap.size W)
  have hfl0 : fs.length ≤ 9223372036854775807 := by omega
  clear hF hfl hx hc hr
  go_enter Try.func17, Try.ntmps17
  go_wp2_with ((with_reducible refine gate_dst (N := 2) rfl ?_); refine box_event ?hg (N := 2) ?hd (cs := #[.slice F fs.length cf]) (t := 45) ?hr ?_; (case hd => rfl); (case hg => rfl); (case hr => first | (go_simp; done) | (go_simp; rfl)); intro gs hg w2 hbox hb; have BK2 := Aside0.mk hbox; have HB2 := Aside0.mk hb; clear hg hbox hb; have hz0 : w2.cell? ⟨gs, 0, none⟩ = some (.slice F fs.length cf) := (blk_cell BK2.out 0).trans rfl)
  refine (HSh.out _ HB2.out).mono ?_
  rintro e w3 ⟨rfl, hb⟩
  have HB3 : Aside0 (Below W.heap.size W w3) := ⟨HB2.out.trans (hb.mono HB2.out.size)⟩
  have BK3 := Aside0.mk (blk_below BK2.out hb)
  clear hb hz0 BK2 HB2
  cases hs : fs.all shapeF with
  | false =>
    have HP := Aside0.mk (decR_not (xs := xs) hs)
    go_wp2_with fail
    go_ret2
    exact ⟨.slice none 0 0, (by rw [HP.out]; rfl), (by rw [HP.out]; exact Kd.N_nil _ _ _ _ _), HB3.out⟩
  | true =>
    have HRd2 := Aside0.mk (HRd.out hs)
    have HS := Aside0.mk hs
    clear HRd
    go_wp2_with ((with_reducible refine gate_dst (N := 6) rfl ?_); refine box_event ?hg (N := 6) ?hd (cs := #[.slice none 0 0]) (t := 46) ?hr ?_; (case hd => rfl); (case hg => rfl); (case hr => first | (go_simp; done) | (go_simp; rfl)); intro gl hg w6 hbox hb; have BK6 := Aside0.mk hbox; have G6 : Aside0 (W.heap.size ≤ gl) := ⟨by have := HB3.out.size; omega⟩; have BS6 := Aside0.mk (blk_below BK3.out hb); have HB6 : Aside0 (Below W.heap.size W w6) := ⟨HB3.out.trans (hb.mono HB3.out.size)⟩; clear hg hbox hb)
    refine (HRd2.out gs gl _ HB6.out G6.out BS6.out BK6.out).mono ?_
    rintro e w7 ⟨hyes, hno, hB⟩
    have HB7 := Aside0.mk hB
    have HSz := Aside0.mk HB6.out.size
    clear hB
    by_cases hD : ∃ l, decL fs xs = some (l, [])
    · obtain ⟨l, hD⟩ := hD
      obtain ⟨rfl, v, hv, hR⟩ := hyes l hD
      have HP := Aside0.mk (decR_yes HS.out hD)
      have HR := Aside0.mk hR
      have hz0 : w7.cell? ⟨gl, 0, none⟩ = some v := (blk_cell hv 0).trans rfl
      clear hyes hno hR hv hD
      go_wp2_with fail
      go_ret2
      exact ⟨v, (by rw [HP.out]; rfl), (by rw [HP.out]; exact Kd.R_N (Kd.R_mono (Kd.R_lower HR.out HSz.out) (fun k hk => Nat.le_trans HSz.out hk))), HB7.out⟩
    · have hD2 : ∀ l, decL fs xs ≠ some (l, []) := fun l h => hD ⟨l, h⟩
      obtain rfl := hno hD2
      have HP := Aside0.mk (decR_no HS.out hD2)
      clear hyes hno hD hD2
      go_wp2_with fail
      go_ret2
      exact ⟨.slice none 0 0, (by rw [HP.out]; rfl), (by rw [HP.out]; exact Kd.N_nil _ _ _ _ _), HB7.out⟩
def sums_Decode.f (l0 : List S28) (l1 : List Int) : Option (List S31 × Int) := if l0.length ≤ 2400000000000 ∧ (l1.all fun x => decide (0 ≤ x ∧ x ≤ 255)) = true then some (decR l0 l1) else none
theorem sums_Decode.calls (A0 : Option Addr) (c0 : Nat) (l0 : List S28) (A1 : Option Addr) (c1 : Nat) (l1 : List Int) (r1 : List S31) (r2 : Int) (w : World) (hr0 : Kd.C k28 w A0 l0.length l0) (hc0 : l0.length ≤ c0) (hr1 : Kd.C (Kd.int .u8) w A1 l1.length l1) (hc1 : l1.length ≤ c1) (h : sums_Decode.f l0 l1 = some (r1, r2)) :
    Calls Try.prog 17 #[.slice A0 l0.length c0, .slice A1 l1.length c1] w fun e w' => ∃ v1_ : Value, e = .returned (.tuple #[v1_, .int .i64 r2]) ∧ Kd.N k31 31 w' w.heap.size (fun k_ => (w.heap.size ≤ k_)) v1_ r1 ∧ Below w.heap.size w w' := by
  unfold sums_Decode.f at h
  by_cases hl : l0.length ≤ 2400000000000 ∧ (l1.all fun x => decide (0 ≤ x ∧ x ≤ 255)) = true
  · rw [if_pos hl] at h
    have h1 : (decR l0 l1).1 = r1 := by injection h with h; rw [h]
    have h2 : (decR l0 l1).2 = r2 := by injection h with h; rw [h]
    subst h1
    subst h2
    exact dec_any l0 l1 A0 c0 A1 c1 w hr0 hl.1 hr1 hc1 (fun x hx => by have h2 := hl.2; rw [List.all_eq_true] at h2; simpa using h2 x hx)
  · rw [if_neg hl] at h
    cases h
end Go.Proofs.Ytgemcomcjojjbaa.PS
