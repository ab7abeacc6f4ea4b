/- The reader of package sums: the closure that Decode hands over. No conditions. -/
import Derived.Test.YtgemcomcjojjbaaHReadS
import Derived.Test.YtgemcomcjojjbaaHEnc
namespace Go.Proofs.Ytgemcomcjojjbaa.PS
open Go.RowKit Go.Proofs.YtgemcomcjojjbaaW.PrintWords Go.Proofs.YtgemcomcjojjbaaW.PrintLast Go.Proofs.YtgemcomcjojjbaaW.PrintMore
set_option linter.unusedVariables false
set_option linter.unusedSimpArgs false

/-- A call in a region that draws, which panics. -/
theorem callP_ {P : Program} {ops : Array Oper} {Q : Exit → Act → World → Prop} {oi : Oper} {N : Option Tmp} {a : Act} {w : World} {K : Act → World → Prop} (f : FuncId) (args : Array Value) (hw : Region.wanted oi (yielded ops a.tmps) = true) (hN : oi.dst = N) (hrun : (execOp a.eval oi).run P w = .ok (.enter f args) w)
    (h : Calls P f args w fun e w' => ∃ ch, e = .panicked ch ∧ Q (.panic ch) a w') : if Region.wanted oi (yielded ops a.tmps) = true then Oper.wp P oi a w K Q else K (a.put N undef) w := by
  rw [if_pos hw]
  subst hN
  unfold Oper.wp
  rw [hrun, Oper.upon_enter]
  refine h.mono fun e w'' hh => ?_
  obtain ⟨v, rfl, hk⟩ := hh
  exact hk
theorem goesP_ {P : Program} {ops : Array Oper} {Q : Exit → Act → World → Prop} {oi : Oper} {N : Option Tmp} {a : Act} {w : World} {K : Act → World → Prop} {f : FuncId} {fn : Func} {as_ : Array Operand} {ts : Array TypeId} (hf : P.funcs[f]? = some fn) (hname : (fn.name == "runtime.NumGoroutine") = false) (hb : fn.body.isSome = true) (args : Array Value)
    (hw : Region.wanted oi (yielded ops a.tmps) = true) (hN : oi.dst = N) (hop : oi.op = .call { callee := .value (.func f), args := as_, argTypes := ts }) (hargs : as_.map a.eval = args)
    (h : Calls P f args w fun e w' => ∃ ch, e = .panicked ch ∧ Q (.panic ch) a w') : if Region.wanted oi (yielded ops a.tmps) = true then Oper.wp P oi a w K Q else K (a.put N undef) w := by
  refine callP_ f args hw hN ?_ h
  have he := enters_ hf hname hb args w
  unfold execOp
  simp [hop, resolve, Deferred.ofValue, invoke, Act.eval, hargs, he]
/-- The summary of a function that some bytes begin with, and the bytes behind it. -/
def fitD (f : S28) (xs : List Int) : Bool := decide (f.f0.toNat * (f.f1.toNat + 1) ≤ xs.length) && (xs.take (f.f0.toNat * (f.f1.toNat + 1))).all isN
def sumD (f : S28) (xs : List Int) : S31 := ⟨headsR (f.f1.toNat + 1) xs f.f0.toNat, tailsR (f.f1.toNat + 1) xs f.f0.toNat⟩
def restD (f : S28) (xs : List Int) : List Int := xs.drop (f.f0.toNat * (f.f1.toNat + 1))
def decL : List S28 → List Int → Option (List S31 × List Int)
  | [], xs => some ([], xs)
  | f :: fs, xs => if fitD f xs = true then (decL fs (restD f xs)).map fun q => (sumD f xs :: q.1, q.2) else none
theorem decL_snoc (f : S28) : ∀ (fs : List S28) (xs : List Int), decL (fs ++ [f]) xs = (decL fs xs).bind fun q => if fitD f q.2 = true then some (q.1 ++ [sumD f q.2], restD f q.2) else none
  | [], xs => by
    simp only [List.nil_append, decL, Option.bind_some]
    split <;> simp
  | g :: fs, xs => by
    simp only [List.cons_append, decL]
    split
    · rw [decL_snoc f fs]
      cases decL fs (restD g xs) with
      | none => rfl
      | some q =>
        simp only [Option.bind_some, Option.map_some]
        split <;> rfl
    · rfl
theorem decL_none : ∀ (gs fs : List S28) (xs : List Int), decL fs xs = none → decL (fs ++ gs) xs = none
  | gs, [], xs, h => by simp [decL] at h
  | gs, f :: fs, xs, h => by
    simp only [List.cons_append, decL] at h ⊢
    split
    · rename_i hf
      rw [if_pos hf] at h
      rw [decL_none gs fs _ (by simpa using h)]
      rfl
    · rfl
theorem decL_len : ∀ (fs : List S28) (xs : List Int) (q : List S31 × List Int), decL fs xs = some q → q.1.length = fs.length
  | [], xs, q, h => by simp only [decL, Option.some.injEq] at h; subst h; rfl
  | f :: fs, xs, q, h => by
    simp only [decL] at h
    split at h
    · cases hd : decL fs (restD f xs) with
      | none => rw [hd] at h; cases h
      | some p =>
        rw [hd] at h
        simp only [Option.map_some, Option.some.injEq] at h
        subst h
        simp [decL_len fs _ p hd]
    · cases h
theorem keepr_below {w w' w1 : World} {g : Nat} {row : Option Nat} (h : KeepBut w w' g row) (hb : Below w.heap.size w' w1) : KeepBut w w1 g row :=
  ⟨Nat.le_trans h.1 hb.size, fun i hi hne hr => (hb.block i hi).trans (h.2 i hi hne hr)⟩
theorem keepr_then {w w' w1 : World} {g : Nat} {row : Option Nat} (h : KeepBut w w' g row) (k : KeepBut w' w1 g none) : KeepBut w w1 g row :=
  ⟨Nat.le_trans h.1 k.1, fun i hi hne hr => (k.2 i (Nat.lt_of_lt_of_le hi h.1) hne (by simp)).trans (h.2 i hi hne hr)⟩
theorem keepr_set {w w' : World} {g gl : Nat} (h : KeepBut w w' g (some gl)) (j : Nat) (u : Value) : KeepBut w (w'.setCell ⟨gl, j, none⟩ u) g (some gl) :=
  ⟨Nat.le_trans h.1 (Below.setCell (B := 0) (Below.refl 0 w') (p := ⟨gl, j, none⟩) (Nat.zero_le _) u).size, fun i hi hne hr => (Below.heap_setCell w' ⟨gl, j, none⟩ u i (fun e => hr (by rw [e]))).trans (h.2 i hi hne hr)⟩
/-- What holds ahead of each round of the closure's loop. -/
def LoopD (Wz w : World) (g gl : Nat) (fs : List S28) (xs : List Int) (q : Nat) (w' : World) : Prop :=
  ∃ (A : Option Addr) (c : Nat) (v : Value) (l : List S31) (rest : List Int), decL (fs.take q) xs = some (l, rest) ∧ w'.heap[g]? = some (.cells #[.slice A rest.length c] 77 (0, 0)) ∧ kB.C Wz A rest.length rest ∧ rest.length ≤ c ∧ (∀ x ∈ rest, 0 ≤ x ∧ x ≤ 255) ∧
    w'.heap[gl]? = some (.cells #[v] 46 (0, 0)) ∧ k31.R 31 w' w.heap.size (fun k => w.heap.size ≤ k) v l ∧ Below Wz.heap.size Wz w' ∧ KeepBut w w' g (some gl)
/-- What the closure leaves. -/
def DecPost (Wz w : World) (g gl : Nat) (D : Option (List S31 × List Int)) (e : Ending) (w' : World) : Prop :=
  (∀ l rest, D = some (l, rest) → e = .returned (.tuple #[]) ∧ ∃ v A' c', w'.heap[gl]? = some (.cells #[v] 46 (0, 0)) ∧ k31.R 31 w' w.heap.size (fun k => w.heap.size ≤ k) v l ∧ w'.heap[g]? = some (.cells #[.slice A' rest.length c'] 77 (0, 0))) ∧
  (D = none → e = .panicked [{ v := wrongV, recovered := false }]) ∧ Below Wz.heap.size Wz w' ∧ KeepBut w w' g (some gl)
theorem shapeF_nat {f : S28} (h : shapeF f = true) : ∃ P m : Nat, f.f0 = (P : Int) ∧ f.f1 = (m : Int) - 1 ∧ P ≤ 8 ∧ 0 < m ∧ m ≤ 5 ∧ f.f0.toNat = P ∧ f.f1.toNat + 1 = m := by
  simp only [shapeF, shapeS, Bool.and_eq_true, decide_eq_true_eq] at h
  exact ⟨f.f0.toNat, f.f1.toNat + 1, by omega, by omega, by omega, by omega, by omega, rfl, rfl⟩

def TAB_35.T3 : Bool × List (List Nat × List Nat) := (true, [([], []), ([], []), ([], []), ([1, 2], [1, 2]), ([3], [3]), ([0, 4, 3], [0, 4]), ([5, 5, 0, 1, 2, 3, 4, 5], [5])])
def TAB_35.B3 : List Nat := [0, 0, 0, 6, 14, 31, 63]
theorem TAB_35.tab3 : rtab .any (opsOf Try.f35 3) = TAB_35.T3 := by kernel_rfl
theorem TAB_35.bits3 : waitsOk TAB_35.T3.2 TAB_35.B3 = true := by kernel_rfl
set_option maxHeartbeats 8000000 in
set_option maxRecDepth 100000 in
theorem dec1_any (g gs gl : Nat) (fs : List S28) (F : Option Addr) (cf : Nat) (xs : List Int) (A : Option Addr) (c : Nat) (Wz w : World) (hWz : Below Wz.heap.size Wz w) (hg : Wz.heap.size ≤ g) (hgl : Wz.heap.size ≤ gl) (hs : w.heap[gs]? = some (.cells #[.slice F fs.length cf] 45 (0, 0))) (hb : w.heap[g]? = some (.cells #[.slice A xs.length c] 77 (0, 0))) (hl : w.heap[gl]? = some (.cells #[.slice none 0 0] 46 (0, 0))) (hF : k28.C Wz F fs.length fs) (hfl : fs.length ≤ 2400000000000) (hx : kB.C Wz A xs.length xs) (hc : xs.length ≤ c) (hsh : fs.all shapeF = true) (hr : ∀ x ∈ xs, 0 ≤ x ∧ x ≤ 255) :
    Calls Try.prog 35 #[.pointer (some ⟨g, 0, none⟩), .pointer (some ⟨gs, 0, none⟩), .pointer (some ⟨gl, 0, none⟩)] w fun e w' => DecPost Wz w g gl (decL fs xs) e w' := by
  have Hg := Aside0.mk hg
  have Hgl := Aside0.mk hgl
  have HF := Aside0.mk hF
  have Hfl := Aside0.mk hfl
  have Hsh := Aside0.mk hsh
  have HWz := Aside0.mk hWz
  have HGlt := Aside0.mk (blk_lt hb)
  have HGLlt := Aside0.mk (blk_lt hl)
  have HLp : Aside0 (LoopD Wz w g gl fs xs 0 w) := ⟨A, c, .slice none 0 0, [], xs, by simp [decL], hb, hx, hc, hr, hl, Kd.R_nil _ _ _ _ _, hWz, KeepBut.refl _ _ _⟩
  have hz : w.cell? ⟨gs, 0, none⟩ = some (.slice F fs.length cf) := (blk_cell hs 0).trans rfl
  have NN : Aside0 (gl ≠ g) := ⟨blk_ne hl hb (by decide)⟩
  clear hg hgl hF hfl hsh hWz hb hl hx hc hr hs
  go_enter Try.func35, Try.ntmps35
  go_wp2_with fail
  clear hz
  have hfl0 : fs.length ≤ 9223372036854775807 := by have := Hfl.out; omega
  go_loopw [8] (fun v8 w' => ∃ q : Nat, q ≤ fs.length ∧ v8 = .int .i64 (q : Int) ∧ Aside0 (LoopD Wz w g gl fs xs q w')) (fun i _ => fs.length - (intOf i).toNat)
  case atStart => exact ⟨0, Nat.zero_le _, rfl, HLp⟩
  case round =>
    obtain ⟨q, hq, rfl, HI⟩ := hrel
    clear HLp
    obtain ⟨A', c', v, l, rest, hD, hbk, hC, hc', hr', hL, hR, hZ, hKp⟩ := HI.out
    have HD := Aside0.mk hD
    have K := Aside0.mk hbk
    have HCx := Aside0.mk hC
    have HCl := Aside0.mk hc'
    have HRg := Aside0.mk hr'
    have KL := Aside0.mk hL
    have HR := Aside0.mk hR
    have HZ := Aside0.mk hZ
    have HKp := Aside0.mk hKp
    clear hD hbk hC hc' hr' hL hR hZ hKp HI
    by_cases hlt : q < fs.length
    · have hwp : wrap64 ((q : Int) + 1) = (q : Int) + 1 := wrap_in (by omega) (by omega)
      have q0 : (0 : Int) ≤ (q : Int) := by omega
      have q1 : (q : Int) < (fs.length : Int) := by omega
      obtain ⟨ad, A3, c3, rfl, hy0, hy1, hy2, hy3⟩ := at_S28 HF.out q hlt rfl
      have HSh : Aside0 (shapeF fs[q] = true) := ⟨by have := Hsh.out; rw [List.all_eq_true] at this; exact this _ (List.getElem_mem hlt)⟩
      have HTk : Aside0 (fs.take (q + 1) = fs.take q ++ [fs[q]]) := ⟨List.take_succ_eq_append_getElem hlt⟩
      obtain ⟨x, hx⟩ : ∃ x, x = fs[q] := ⟨_, rfl⟩
      have HXf := Aside0.mk hx
      rw [← hx] at hy0 hy1 hy2 hy3 HSh HTk
      clear hx
      obtain ⟨P, m, hP, hm, hP8, hm0, hm5, hPn, hmn⟩ := shapeF_nat HSh.out
      obtain ⟨x0, x1, x2, x3⟩ := x
      obtain rfl : x0 = (P : Int) := hP
      obtain ⟨R, hR⟩ : ∃ R, R = (m : Int) - 1 := ⟨_, rfl⟩
      obtain rfl : x1 = R := hm.trans hR.symm
      have HRm := Aside0.mk hR
      have HPn : Aside0 ((⟨(P : Int), x1, x2, x3⟩ : S28).f0.toNat = P ∧ (⟨(P : Int), x1, x2, x3⟩ : S28).f1.toNat + 1 = m) := ⟨hPn, hmn⟩
      have HNum : Aside0 (P ≤ 8 ∧ 0 < m ∧ m ≤ 5) := ⟨hP8, hm0, hm5⟩
      replace hy0 := pw_cell_below HZ.out hy0
      replace hy1 := pw_cell_below HZ.out hy1
      replace hy2 := pw_cell_below HZ.out hy2
      replace hy3 := pw_cell_below HZ.out hy3
      obtain ⟨n3, hn3⟩ : ∃ n3, n3 = x3.length := ⟨_, rfl⟩
      replace hy0 : _ = some (Value.int .i64 (P : Int)) := hy0
      replace hy1 : _ = some (Value.int .i64 x1) := hy1
      replace hy2 : _ = some (Value.int .i64 x2) := hy2
      replace hy3 : _ = some (Value.slice A3 x3.length c3) := hy3
      rw [← hn3] at hy3
      clear hm hR hPn hmn hP8 hm0 hm5 hn3
      go_wp2_with ((with_reducible refine gate_dst (N := 5) rfl ?_); refine box_event ?hg (N := 5) ?hd (cs := #[.int .i64 0, .int .i64 0, .int .i64 0, .slice none 0 0]) (t := 28) ?hr ?_; (case hd => rfl); (case hg => rfl); (case hr => first | (go_simp; done) | (go_simp; rfl)); intro gf hg w5 hbox hb; have BK5 := Aside0.mk hbox; have HB5 := Aside0.mk hb; have Gf : Aside0 (wr.heap.size ≤ gf) := (by exact ⟨by omega⟩); clear hg hbox hb; have hz0 : w5.cell? ⟨gf, 0, none⟩ = some (.int .i64 0) := (blk_cell BK5.out 0).trans rfl; have hz1 : w5.cell? ⟨gf, 1, none⟩ = some (.int .i64 0) := (blk_cell BK5.out 1).trans rfl; have hz2 : w5.cell? ⟨gf, 2, none⟩ = some (.int .i64 0) := (blk_cell BK5.out 2).trans rfl; have hz3 : w5.cell? ⟨gf, 3, none⟩ = some (.slice none 0 0) := (blk_cell BK5.out 3).trans rfl; have hf0 := blk_frozen BK5.out 0; have hf1 := blk_frozen BK5.out 1; have hf2 := blk_frozen BK5.out 2; have hf3 := blk_frozen BK5.out 3)
      obtain ⟨wz, hwz⟩ : ∃ wz, wz = (((w5.setCell ⟨gf, 0, none⟩ (.int .i64 (P : Int))).setCell ⟨gf, 1, none⟩ (.int .i64 x1)).setCell ⟨gf, 2, none⟩ (.int .i64 x2)).setCell ⟨gf, 3, none⟩ (.slice A3 n3 c3) := ⟨_, rfl⟩
      have KZ : Aside0 (wz.heap[gf]? = some (.cells #[.int .i64 (P : Int), .int .i64 x1, .int .i64 x2, .slice A3 n3 c3] 28 (0, 0))) := ⟨by rw [hwz]; exact (blk_set (blk_set (blk_set (blk_set BK5.out 0 _) 1 _) 2 _) 3 _).trans rfl⟩
      have HBz : Aside0 (Below wr.heap.size wr wz) := ⟨by rw [hwz]; exact below_set (below_set (below_set (below_set HB5.out Gf.out) Gf.out) Gf.out) Gf.out⟩
      rw [← hwz]
      clear hwz hz0 hz1 hz2 hz3 hf0 hf1 hf2 hf3 hy0 hy1 hy2 hy3 BK5 HB5
      have Kz := Aside0.mk (blk_below K.out HBz.out)
      have KLz := Aside0.mk (blk_below KL.out HBz.out)
      have HRz := Aside0.mk (Kd.R_below HR.out HBz.out)
      have HZz : Aside0 (Below Wz.heap.size Wz wz) := ⟨HZ.out.trans (HBz.out.mono HZ.out.size)⟩
      have HKz : Aside0 (KeepBut w wz g (some gl)) := ⟨keepr_below HKp.out (HBz.out.mono HKp.out.1)⟩
      have HFit : Aside0 (fitD ⟨(P : Int), x1, x2, x3⟩ rest = true ↔ (P * m ≤ rest.length ∧ (rest.take (P * m)).all isN = true)) := ⟨by simp only [fitD]; rw [HPn.out.1, HPn.out.2]; simp only [Bool.and_eq_true, decide_eq_true_eq]⟩
      have HSm : Aside0 (sumD ⟨(P : Int), x1, x2, x3⟩ rest = ⟨headsR m rest P, tailsR m rest P⟩) := ⟨by simp only [sumD]; rw [HPn.out.1, HPn.out.2]⟩
      have HRs : Aside0 (restD ⟨(P : Int), x1, x2, x3⟩ rest = rest.drop (P * m)) := ⟨by simp only [restD]; rw [HPn.out.1, HPn.out.2]⟩
      have HRd : Aside0 (Calls Try.prog 36 #[.pointer (some ⟨g, 0, none⟩), .agg #[.int .i64 (P : Int), .int .i64 x1, .int .i64 x2, .slice A3 n3 c3]] wz.drew fun e w' =>
        ((P * m ≤ rest.length ∧ (rest.take (P * m)).all isN = true) → ∃ v0 v1 A' c', e = .returned (.agg #[v0, v1]) ∧ kI.R 3 w' wz.drew.heap.size (fun k => wz.drew.heap.size ≤ k) v0 (headsR m rest P) ∧ kL.R 22 w' wz.drew.heap.size (fun k => wz.drew.heap.size ≤ k) v1 (tailsR m rest P) ∧ w'.heap[g]? = some (.cells #[.slice A' (rest.drop (P * m)).length c'] 77 (0, 0)) ∧ kB.C Wz A' (rest.drop (P * m)).length (rest.drop (P * m)) ∧ (rest.drop (P * m)).length ≤ c') ∧
        (¬ (P * m ≤ rest.length ∧ (rest.take (P * m)).all isN = true) → e = .panicked [{ v := wrongV, recovered := false }]) ∧ Below Wz.heap.size Wz w' ∧ KeepBut wz.drew w' g none) := ⟨by have h := rds_any g P m x2 A3 n3 c3 rest A' c' Wz wz.drew (below_drew HZz.out) Hg.out (blk_drew Kz.out) HCx.out HCl.out HNum.out.1 HNum.out.2.1 HNum.out.2.2 HRg.out; rw [← HRm.out] at h; exact h⟩
      have HSz : Aside0 (w.heap.size ≤ wz.heap.size) := ⟨HKz.out.1⟩
      clear K KL HR HZ HKp HCx HCl HBz
      have hs1 : wz.cell? ⟨gf, 0, none⟩ = some (.int .i64 (P : Int)) := (blk_cell KZ.out 0).trans rfl
      have hs2 : wz.cell? ⟨gf, 1, none⟩ = some (.int .i64 x1) := (blk_cell KZ.out 1).trans rfl
      have hs3 : wz.cell? ⟨gf, 2, none⟩ = some (.int .i64 x2) := (blk_cell KZ.out 2).trans rfl
      have hs4 : wz.cell? ⟨gf, 3, none⟩ = some (.slice A3 n3 c3) := (blk_cell KZ.out 3).trans rfl
      obtain ⟨Al, cl, rfl⟩ := Kd.R_slice HRz.out
      have hs0 : wz.cell? ⟨gl, 0, none⟩ = some (.slice Al l.length cl) := (blk_cell KLz.out 0).trans rfl
      have HLl : Aside0 (l.length ≤ fs.length) := ⟨by have h := decL_len _ _ _ HD.out; simp only at h; rw [h, List.length_take]; exact Nat.min_le_right _ _⟩
      by_cases hfit : fitD ⟨(P : Int), x1, x2, x3⟩ rest = true
      · have hfz := HFit.out.1 hfit
        have HFz := Aside0.mk hfz
        have HFt := Aside0.mk hfit
        clear hfz hfit
        obtain ⟨hd, hhd⟩ : ∃ hd, hd = headsR m rest P := ⟨_, rfl⟩
        obtain ⟨tl, htl⟩ : ∃ tl, tl = tailsR m rest P := ⟨_, rfl⟩
        obtain ⟨rs, hrs⟩ : ∃ rs, rs = rest.drop (P * m) := ⟨_, rfl⟩
        have HRr : Aside0 (∀ x ∈ rs, 0 ≤ x ∧ x ≤ 255) := ⟨fun x hx => HRg.out x (by rw [hrs] at hx; exact List.mem_of_mem_drop hx)⟩
        rw [← hhd, ← htl] at HSm
        rw [← hrs] at HRs
        rw [← hhd, ← htl, ← hrs] at HRd
        clear hhd htl hrs
        refine start_ (n := 7) (S := fun w' => w'.cell? ⟨gl, 0, none⟩ = some (.slice Al l.length cl) ∧ w'.cell? ⟨gf, 0, none⟩ = some (.int .i64 (P : Int)) ∧ w'.cell? ⟨gf, 1, none⟩ = some (.int .i64 x1) ∧ w'.cell? ⟨gf, 2, none⟩ = some (.int .i64 x2) ∧ w'.cell? ⟨gf, 3, none⟩ = some (.slice A3 n3 c3)) (ds := [6]) #[false, false, false, false, false, false, false] (by kernel_rfl) rfl rfl ⟨hs0, hs1, hs2, hs3, hs4⟩ (fun hHeld => ?_)
        refine with_tabW TAB_35.tab3 TAB_35.bits3 (fun HT_ HW_ => ?_)
        refine pure_ (i := 1) (N := some 13) (v := ?_) (a' := ?_) #[false, true, false, false, false, false, false] rfl rfl (any_of HT_.out (by kernel_rfl)) (fun _ _ _ h => h) (Or.inl ⟨by rfl, ?_⟩) ?_ ?_
        rotate_left
        · intro w'
          go_simp
          with_reducible rfl
        rotate_left
        · simp only [Act.put, List.setIfInBounds_toArray, List.set_cons_zero, List.set_cons_succ, i64_w, i32_w]
          rfl
        refine take_ (i := 0) (N := some 12) (v := ?_) (a' := ?_) #[true, true, false, false, false, false, false] rfl rfl (take_ofW HT_.out HW_.out (by kernel_rfl)) (fun _ _ _ h => h) (Or.inl ⟨by rfl, ?_⟩) hHeld ?_ ?_
        rotate_left
        · rintro w' ⟨s0, s1, s2, s3, s4⟩
          go_simp
          with_reducible rfl
        rotate_left
        · simp only [Act.put, List.setIfInBounds_toArray, List.set_cons_zero, List.set_cons_succ, i64_w, i32_w]
          rfl
        refine take_ (i := 2) (N := some 14) (v := ?_) (a' := ?_) #[true, true, true, false, false, false, false] rfl rfl (take_ofW HT_.out HW_.out (by kernel_rfl)) (fun _ _ _ h => h) (Or.inl ⟨by rfl, ?_⟩) hHeld ?_ ?_
        rotate_left
        · rintro w' ⟨s0, s1, s2, s3, s4⟩
          go_simp
          with_reducible rfl
        rotate_left
        · simp only [Act.put, List.setIfInBounds_toArray, List.set_cons_zero, List.set_cons_succ, i64_w, i32_w]
          rfl
        refine one_ (i := 3) (N := some 15) #[true, true, true, true, false, false, false] rfl rfl (one_of HT_.out (by kernel_rfl)) (by decide) (fun K hK => ?_)
        refine goes_ Try.func36 (by kernel_rfl) rfl #[.pointer (some ⟨g, 0, none⟩), .agg #[.int .i64 (P : Int), .int .i64 x1, .int .i64 x2, .slice A3 n3 c3]] (by rfl) rfl rfl (by simp only [List.map_toArray, List.map_cons, List.map_nil]; rfl) ?_
        with_reducible refine (HRd.out).mono ?_
        rintro e_ wc ⟨hyes, hno, hBc, hKc⟩
        obtain ⟨v0, v1, A9, c9, rfl, hR0, hR1, hK9, hC9, hc9⟩ := hyes HFz.out
        refine ⟨_, rfl, ?_⟩
        obtain ⟨B0, d0, rfl⟩ := Kd.R_slice hR0
        obtain ⟨B1, d1, rfl⟩ := Kd.R_slice hR1
        have HR0 := Aside0.mk hR0
        have HR1 := Aside0.mk hR1
        have K9 := Aside0.mk hK9
        have HC9 := Aside0.mk hC9
        have Hc9 := Aside0.mk hc9
        have HBc := Aside0.mk hBc
        have HKc : Aside0 (KeepBut wz wc g none) := ⟨hKc⟩
        have LC := Aside0.mk (hKc.blk (blk_drew KLz.out) NN.out (by simp))
        have ZC := Aside0.mk (hKc.blk (blk_drew KZ.out) (blk_ne KZ.out Kz.out (by decide)) (by simp))
        have RC := Aside0.mk (Kd.R_keep (Kd.R_drew HRz.out) hKc (fun k hk e => by have := HGlt.out; omega))
        clear hyes hno hBc hKc hR0 hR1 hK9 hC9 hc9
        refine hK.out _ _ ⟨(blk_cell LC.out 0).trans rfl, (blk_cell ZC.out 0).trans rfl, (blk_cell ZC.out 1).trans rfl, (blk_cell ZC.out 2).trans rfl, (blk_cell ZC.out 3).trans rfl⟩ (fun hHeld => ?_)
        clear hK K
        refine norm_ (a' := ?_) ?_ ?_
        rotate_left
        · show Act.put _ (some 15) _ = _
          simp only [Act.put, List.setIfInBounds_toArray, List.set_cons_zero, List.set_cons_succ, i64_w, i32_w]
          rfl
        refine one_ (i := 4) (N := some 16) #[true, true, true, true, true, false, false] rfl rfl (one_of HT_.out (by kernel_rfl)) (by decide) (fun K hK => ?_)
        refine value_ (w1 := ?_) (v := ?_) (by rfl) rfl ?_ ?_
        rotate_left 2
        · go_simp
          constructor
          · rfl
          · rfl
        show K _ (World.alloc wc (Obj.cells #[Value.slice B0 hd.length d0, Value.slice B1 tl.length d1] 31))
        refine hK.out _ _ ⟨pw_cell_below (below_alloc (Below.refl _ _) _) ((blk_cell LC.out 0).trans rfl), pw_cell_below (below_alloc (Below.refl _ _) _) ((blk_cell ZC.out 0).trans rfl), pw_cell_below (below_alloc (Below.refl _ _) _) ((blk_cell ZC.out 1).trans rfl), pw_cell_below (below_alloc (Below.refl _ _) _) ((blk_cell ZC.out 2).trans rfl), pw_cell_below (below_alloc (Below.refl _ _) _) ((blk_cell ZC.out 3).trans rfl)⟩ (fun hHeld => ?_)
        clear hK K
        refine norm_ (a' := ?_) ?_ ?_
        rotate_left
        · show Act.put _ (some 16) _ = _
          simp only [Act.put, List.setIfInBounds_toArray, List.set_cons_zero, List.set_cons_succ, i64_w, i32_w]
          rfl
        refine one_ (i := 5) (N := some 17) #[true, true, true, true, true, true, false] rfl rfl (one_of HT_.out (by kernel_rfl)) (by decide) (fun K hK => ?_)
        refine Kd.R_append_step k31 (w0 := wc) w.heap.size (by rfl) (.tmp 12) (.tmp 16) 46 31 (.agg #[.slice none 0 0, .slice none 0 0]) 48 (by rfl) Try.underlying46 info31 (by rfl) (by decide) (by omega) (.slice Al l.length cl) l ⟨hd, tl⟩ [.slice B0 hd.length d0, .slice B1 tl.length d1] (fun k => w.heap.size ≤ k) (fun k => wz.heap.size ≤ k) (by rfl) (by rfl) ?aP ?aK ?aF ?aO ?aB ?aS ?aL ?_
        case aP => exact k31_mkM wc w.heap.size (fun k => wz.heap.size ≤ k) ⟨hd, tl⟩ (Kd.R_lower HR0.out HSz.out) (Kd.R_lower HR1.out HSz.out)
        case aK => exact fun k hk => ⟨Nat.le_trans HSz.out hk, fun e => by have := Kd.R_lt HRz.out k e.symm; omega⟩
        case aF => exact fun k hk => Nat.le_trans HSz.out (Nat.le_trans HKc.out.1 hk)
        case aO => exact RC.out
        case aB => exact Below.refl _ _
        case aS => exact Nat.le_trans HSz.out HKc.out.1
        case aL => have := HLl.out; have := Hfl.out; omega
        intro v6 w6 ho hb hg hat
        obtain ⟨l2, hl2⟩ : ∃ l2, l2 = l ++ [(⟨hd, tl⟩ : S31)] := ⟨_, rfl⟩
        rw [← hl2] at ho
        have HL2 := Aside0.mk hl2
        clear hl2
        obtain ⟨A6, c6, rfl⟩ := Kd.R_slice ho
        have F9 := Aside0.mk (blk_grown K9.out hg (Kd.R_ne RC.out K9.out (by decide)))
        have FL := Aside0.mk (blk_grown LC.out hg (Kd.R_ne RC.out LC.out (by decide)))
        have FZ := Aside0.mk (blk_grown ZC.out hg (Kd.R_ne RC.out ZC.out (by decide)))
        have FR := Aside0.mk ho
        have FB := Aside0.mk hb
        clear ho hb hg hat
        refine hK.out _ _ ⟨(blk_cell FL.out 0).trans rfl, (blk_cell FZ.out 0).trans rfl, (blk_cell FZ.out 1).trans rfl, (blk_cell FZ.out 2).trans rfl, (blk_cell FZ.out 3).trans rfl⟩ (fun hHeld => ?_)
        clear hK K
        refine norm_ (a' := ?_) ?_ ?_
        rotate_left
        · show Act.put _ (some 17) _ = _
          simp only [Act.put, List.setIfInBounds_toArray, List.set_cons_zero, List.set_cons_succ, i64_w, i32_w]
          rfl
        refine last_ (i := 6) (N := none) #[true, true, true, true, true, true, true] rfl rfl (one_of HT_.out (by kernel_rfl)) (by decide) (fun K hK => ?_)
        have hcz : w6.cell? ⟨gl, 0, none⟩ = some (.slice Al l.length cl) := (blk_cell FL.out 0).trans rfl
        have hfz := blk_frozen FL.out 0
        refine skip_ (w1 := ?_) (by rfl) rfl ?_ ?_
        rotate_left
        · go_simp
          rfl
        clear hcz hfz
        refine hK.out _ _ ?_
        clear hK K
        refine done_ (done_of HT_.out (by kernel_rfl)) ?_

        clear HT_ HW_ hs0 hs1 hs2 hs3 hs4
        have HI2 : Aside0 (LoopD Wz w g gl fs xs (q + 1) (w6.setCell ⟨gl, 0, none⟩ (.slice A6 l2.length c6))) := ⟨A9, c9, .slice A6 l2.length c6, l2, rs, by rw [HTk.out, decL_snoc, HD.out]; simp only [Option.bind_some]; rw [if_pos HFt.out, HSm.out, HRs.out, HL2.out], blk_far F9.out NN.out.symm _, HC9.out, Hc9.out, HRr.out, (blk_set FL.out 0 _).trans rfl, Kd.R_set FR.out FL.out (by decide) 0 _, below_set (HBc.out.trans (FB.out.mono (Nat.le_trans HWz.out.size (Nat.le_refl _)))) Hgl.out, keepr_set (keepr_below (keepr_then HKz.out HKc.out) FB.out) 0 _⟩
        go_wp2_with fail
        go_roundw
        case rel => exact ⟨q + 1, by omega, by go_num, HI2⟩
        case measure => simp [intOf]; omega
      · have hno2 : Aside0 (¬ (P * m ≤ rest.length ∧ (rest.take (P * m)).all isN = true)) := ⟨fun h => hfit (HFit.out.2 h)⟩
        have HNo : Aside0 (decL fs xs = none) := ⟨by
          have h : decL (fs.take (q + 1)) xs = none := by
            rw [HTk.out, decL_snoc, HD.out]
            simp only [Option.bind_some]
            rw [if_neg hfit]
          have h2 := decL_none (fs.drop (q + 1)) _ _ h
          rwa [List.take_append_drop] at h2⟩
        clear hfit
        refine start_ (n := 7) (S := fun w' => w'.cell? ⟨gl, 0, none⟩ = some (.slice Al l.length cl) ∧ w'.cell? ⟨gf, 0, none⟩ = some (.int .i64 (P : Int)) ∧ w'.cell? ⟨gf, 1, none⟩ = some (.int .i64 x1) ∧ w'.cell? ⟨gf, 2, none⟩ = some (.int .i64 x2) ∧ w'.cell? ⟨gf, 3, none⟩ = some (.slice A3 n3 c3)) (ds := [6]) #[false, false, false, false, false, false, false] (by kernel_rfl) rfl rfl ⟨hs0, hs1, hs2, hs3, hs4⟩ (fun hHeld => ?_)
        refine with_tabW TAB_35.tab3 TAB_35.bits3 (fun HT_ HW_ => ?_)
        refine pure_ (i := 1) (N := some 13) (v := ?_) (a' := ?_) #[false, true, false, false, false, false, false] rfl rfl (any_of HT_.out (by kernel_rfl)) (fun _ _ _ h => h) (Or.inl ⟨by rfl, ?_⟩) ?_ ?_
        rotate_left
        · intro w'
          go_simp
          with_reducible rfl
        rotate_left
        · simp only [Act.put, List.setIfInBounds_toArray, List.set_cons_zero, List.set_cons_succ, i64_w, i32_w]
          rfl
        refine take_ (i := 0) (N := some 12) (v := ?_) (a' := ?_) #[true, true, false, false, false, false, false] rfl rfl (take_ofW HT_.out HW_.out (by kernel_rfl)) (fun _ _ _ h => h) (Or.inl ⟨by rfl, ?_⟩) hHeld ?_ ?_
        rotate_left
        · rintro w' ⟨s0, s1, s2, s3, s4⟩
          go_simp
          with_reducible rfl
        rotate_left
        · simp only [Act.put, List.setIfInBounds_toArray, List.set_cons_zero, List.set_cons_succ, i64_w, i32_w]
          rfl
        refine take_ (i := 2) (N := some 14) (v := ?_) (a' := ?_) #[true, true, true, false, false, false, false] rfl rfl (take_ofW HT_.out HW_.out (by kernel_rfl)) (fun _ _ _ h => h) (Or.inl ⟨by rfl, ?_⟩) hHeld ?_ ?_
        rotate_left
        · rintro w' ⟨s0, s1, s2, s3, s4⟩
          go_simp
          with_reducible rfl
        rotate_left
        · simp only [Act.put, List.setIfInBounds_toArray, List.set_cons_zero, List.set_cons_succ, i64_w, i32_w]
          rfl
        refine one_ (i := 3) (N := some 15) #[true, true, true, true, false, false, false] rfl rfl (one_of HT_.out (by kernel_rfl)) (by decide) (fun K hK => ?_)
        refine goesP_ Try.func36 (by kernel_rfl) rfl #[.pointer (some ⟨g, 0, none⟩), .agg #[.int .i64 (P : Int), .int .i64 x1, .int .i64 x2, .slice A3 n3 c3]] (by rfl) rfl rfl (by simp only [List.map_toArray, List.map_cons, List.map_nil]; rfl) ?_
        with_reducible refine (HRd.out).mono ?_
        rintro e_ wc ⟨hyes, hno, hBc, hKc⟩
        obtain rfl := hno hno2.out
        refine ⟨_, rfl, ?_⟩
        have HBc := Aside0.mk hBc
        have HKc : Aside0 (KeepBut wz wc g none) := ⟨hKc⟩
        clear hyes hno hBc hKc
        have HPo : DecPost Wz w g gl (decL fs xs) (.panicked [{ v := wrongV, recovered := false }]) wc := ⟨fun l r h => (by rw [HNo.out] at h; cases h), fun _ => rfl, HBc.out, keepr_then HKz.out HKc.out⟩
        exact ⟨rfl, HPo⟩
    · obtain rfl : fs.length = q := by omega
      have HD2 : Aside0 (decL fs xs = some (l, rest)) := ⟨by have h := HD.out; rwa [List.take_of_length_le (Nat.le_refl _)] at h⟩
      go_wp2_with fail
      go_end0
      exact ⟨fun l' r' h => (by
        rw [HD2.out] at h
        obtain ⟨rfl, rfl⟩ : l = l' ∧ rest = r' := by simpa using h
        exact ⟨rfl, v, A', c', KL.out, HR.out, K.out⟩), fun h => (by rw [HD2.out] at h; cases h), HZ.out, HKp.out⟩
end Go.Proofs.Ytgemcomcjojjbaa.PS
