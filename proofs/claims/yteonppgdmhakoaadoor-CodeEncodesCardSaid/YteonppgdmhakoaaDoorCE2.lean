/- What a proof of this seat needs, laid together by a program of the session's. No conditions. -/
import Derived.Test.YteonppgdmhakoaaDoorCE1
import Derived.StillTailTactics
import Derived.Defers
import Derived.Recover
namespace Go.Proofs.YteonppgdmhakoaaDoor.PC
open Go.RowKit Go.Proofs.YteonppgdmhakoaaDoorW.PrintWords Go.Proofs.YteonppgdmhakoaaDoorW.PrintLast Go.Proofs.YteonppgdmhakoaaDoorW.PrintMore
set_option linter.unusedVariables false
set_option linter.unusedSimpArgs false
def TAB_102.T0 : Bool × List (List Nat × List Nat) := (true, [([], []), ([], []), ([1], [1]), ([2], [2]), ([3], [3]), ([], []), ([4, 5], [4, 5]), ([6], [6]), ([7], [7]), ([8, 7], [7, 8]), ([9, 7], [7, 9]), ([10, 7], [7, 10]), ([7], [7]), ([7], [7]), ([7], [7]), ([12, 13, 14, 7, 7], [7, 12, 13, 14]), ([11, 15, 7], [7, 11, 15]), ([7, 16], [7, 16]), ([], []), ([0, 17, 18, 15], [0, 17, 18])])
def TAB_102.B0 : List Nat := [0, 0, 2, 6, 14, 0, 62, 126, 254, 510, 1022, 2046, 254, 254, 254, 28926, 65534, 131070, 0, 524287]
theorem TAB_102.tab0 : rtab .any (opsOf Tryd.f102 0) = TAB_102.T0 := by kernel_rfl
theorem TAB_102.bits0 : waitsOk TAB_102.T0.2 TAB_102.B0 = true := by kernel_rfl
theorem callP_ {P : Program} {ops : Array Oper} {Q : Exit → Act → World → Prop} {oi : Oper} {N : Option Tmp} {a : Act} {w : World} {K : Act → World → Prop} (f : FuncId) (args : Array Value) (hw : Region.wanted oi (yielded ops a.tmps) = true) (hN : oi.dst = N) (hrun : (execOp a.eval oi).run P w = .ok (.enter f args) w)
  (h : Calls P f args w fun e w' => ∃ ch, e = .panicked ch ∧ Q (.panic ch) a w') : if Region.wanted oi (yielded ops a.tmps) = true then Oper.wp P oi a w K Q else K (a.put N undef) w := by
 rw [if_pos hw]
 subst hN
 unfold Oper.wp
 rw [hrun, Oper.upon_enter]
 refine h.mono fun e w'' hh => ?_
 obtain ⟨v, rfl, hk⟩ := hh
 exact hk
theorem goesP_ {P : Program} {ops : Array Oper} {Q : Exit → Act → World → Prop} {oi : Oper} {N : Option Tmp} {a : Act} {w : World} {K : Act → World → Prop} {f : FuncId} {fn : Func} {as_ : Array Operand} {ts : Array TypeId} (hf : P.funcs[f]? = some fn) (hname : (fn.name == "runtime.NumGoroutine") = false) (hb : fn.body.isSome = true) (args : Array Value)
  (hw : Region.wanted oi (yielded ops a.tmps) = true) (hN : oi.dst = N) (hop : oi.op = .call { callee := .value (.func f), args := as_, argTypes := ts }) (hargs : as_.map a.eval = args)
  (h : Calls P f args w fun e w' => ∃ ch, e = .panicked ch ∧ Q (.panic ch) a w') : if Region.wanted oi (yielded ops a.tmps) = true then Oper.wp P oi a w K Q else K (a.put N undef) w := by
 refine callP_ f args hw hN ?_ h
 have he := enters_ hf hname hb args w
 unfold execOp
 simp [hop, resolve, Deferred.ofValue, invoke, Act.eval, hargs, he]
def stopV (er at_ : Int) : Value := .iface 74 (.agg #[.int .i64 er, .int .i64 at_])
def AskW (w : World) (g : Nat) (ty : TypeId) (rest : List Value) (G : Int) (A : Option Addr) (n c B : Nat) (locs at_ : Int) : Prop :=
 w.heap[g]? = some (.cells (Array.mk (.int .i64 G :: .slice A n c :: .slice (some ⟨B, 0, none⟩) 18 18 :: .int .i64 locs :: .int .i64 at_ :: rest)) ty (0, 0))
section
variable {w w' : World} {g B : Nat} {ty : TypeId} {rest : List Value} {G : Int} {A : Option Addr} {n c : Nat} {locs at_ : Int}
theorem AskW.c0 (h : AskW w g ty rest G A n c B locs at_) : w.cell? ⟨g, 0, none⟩ = some (.int .i64 G) := (bZ h 0).trans rfl
theorem AskW.c1 (h : AskW w g ty rest G A n c B locs at_) : w.cell? ⟨g, 1, none⟩ = some (.slice A n c) := (bZ h 1).trans rfl
theorem AskW.c2 (h : AskW w g ty rest G A n c B locs at_) : w.cell? ⟨g, 2, none⟩ = some (.slice (some ⟨B, 0, none⟩) 18 18) := (bZ h 2).trans rfl
theorem AskW.c3 (h : AskW w g ty rest G A n c B locs at_) : w.cell? ⟨g, 3, none⟩ = some (.int .i64 locs) := (bZ h 3).trans rfl
theorem AskW.c4 (h : AskW w g ty rest G A n c B locs at_) : w.cell? ⟨g, 4, none⟩ = some (.int .i64 at_) := (bZ h 4).trans rfl
theorem AskW.below (h : AskW w g ty rest G A n c B locs at_) (hb : Below w.heap.size w w') : AskW w' g ty rest G A n c B locs at_ := kZ h hb
theorem AskW.set3 (h : AskW w g ty rest G A n c B locs at_) (z : Int) : AskW (w.setCell ⟨g, 3, none⟩ (.int .i64 z)) g ty rest G A n c B z at_ := (blk_set h 3 _).trans (by simp)
end
theorem must_true (a : Option Addr) (er : Int) (w : World) : Calls Tryd.prog 42 #[.pointer a, .bool true, .int .i64 er] w fun e w' => e = .returned (.tuple #[]) ∧ w = w' := by
 go_enter Tryd.func42, Tryd.ntmps42
 go_wp2
 go_end0
 exact ⟨rfl, rfl⟩
theorem must_false (g : Nat) (er at_ : Int) (w : World) (h : w.cell? ⟨g, 4, none⟩ = some (.int .i64 at_)) : Calls Tryd.prog 42 #[.pointer (some ⟨g, 0, none⟩), .bool false, .int .i64 er] w fun e w' => e = .panicked [{ v := stopV er at_, recovered := false }] ∧ w = w' := by
 go_enter Tryd.func42, Tryd.ntmps42
 go_wp2
 exact ⟨rfl, rfl, rfl⟩
def MustPost (w : World) (b : Bool) (er at_ : Int) (e : Ending) (w' : World) : Prop := e = (bif b then .returned (.tuple #[]) else .panicked [{ v := stopV er at_, recovered := false }]) ∧ w = w'
theorem must_any (g : Nat) (b : Bool) (er at_ : Int) (w : World) (h : w.cell? ⟨g, 4, none⟩ = some (.int .i64 at_)) : Calls Tryd.prog 42 #[.pointer (some ⟨g, 0, none⟩), .bool b, .int .i64 er] w fun e w' => MustPost w b er at_ e w' := by
 cases b with
 | true => exact must_true _ er w
 | false => exact must_false g er at_ w h
theorem of69 (q : Addr) (w : World) : Calls Tryd.prog 69 #[.pointer (some q)] w fun e w' => e = .returned (.pointer (some ⟨q.block, q.off + 1, none⟩)) ∧ w = w' := by
 go_enter Tryd.func69, Tryd.ntmps69
 go_wp2
 go_ret
 exact ⟨rfl, rfl⟩
theorem of70 (q : Addr) (w : World) : Calls Tryd.prog 70 #[.pointer (some q)] w fun e w' => e = .returned (.pointer (some ⟨q.block, q.off + 2, none⟩)) ∧ w = w' := by
 go_enter Tryd.func70, Tryd.ntmps70
 go_wp2
 go_ret
 exact ⟨rfl, rfl⟩
theorem of71 (q : Addr) (w : World) : Calls Tryd.prog 71 #[.pointer (some q)] w fun e w' => e = .returned (.pointer (some ⟨q.block, q.off + 3, none⟩)) ∧ w = w' := by
 go_enter Tryd.func71, Tryd.ntmps71
 go_wp2
 go_ret
 exact ⟨rfl, rfl⟩
def AskPost (w : World) (er at_ : Int) (e : Ending) (w' : World) : Prop := e = (if er = 0 then .returned (.tuple #[]) else .panicked [{ v := stopV er at_, recovered := false }]) ∧ Below w.heap.size w w'
theorem askPost_ok {w w' : World} {er at_ : Int} (h : er = 0) (hb : Below w.heap.size w w') : AskPost w er at_ (.returned (.tuple #[])) w' := ⟨by rw [if_pos h], hb⟩
theorem askPost_no {w w' : World} {er at_ k : Int} (h : er = k) (hk : k ≠ 0) (hb : Below w.heap.size w w') : AskPost w er at_ (.panicked [{ v := stopV k at_, recovered := false }]) w' := ⟨by rw [h, if_neg hk], hb⟩
def varE (V v : Int) : Int := if 0 ≤ v ∧ v < V then 0 else 13
set_option maxRecDepth 100000 in
set_option maxHeartbeats 1600000 in
theorem ask_var (f i : Nat) (hof : ∀ (q : Addr) (w : World), Calls Tryd.prog f #[.pointer (some q)] w fun e w' => e = .returned (.pointer (some ⟨q.block, q.off + i, none⟩)) ∧ w = w') (hf : f = 69 ∨ f = 70 ∨ f = 71)
  (g b1 : Nat) (qf qx : Addr) (n V v at_ : Int) (w : World) (h4 : w.cell? ⟨g, 4, none⟩ = some (.int .i64 at_)) (hV : w.cell? ⟨qf.block, qf.off + 2, none⟩ = some (.int .i64 V)) (hv : w.cell? ⟨qx.block, qx.off + i, none⟩ = some (.int .i64 v)) (hb : w.heap[b1]? = some (.cells #[.func (Fn.func f) #[] #[]] 108 (0, 0))) :
  Calls Tryd.prog 97 #[.pointer (some ⟨g, 0, none⟩), .pointer (some qf), .pointer (some qx), .int .i64 n, .pointer (some ⟨b1, 0, none⟩)] w fun e w' => AskPost w (varE V v) at_ e w' := by
 have hb0 : w.cell? ⟨b1, 0, none⟩ = some (.func (Fn.func f) #[] #[]) := (bZ hb 0).trans rfl
 have HO := Az.mk hof
 have H4 := Az.mk h4
 clear hof hb h4
 by_cases h0 : 0 ≤ v
 ·by_cases h1 : v < V
  ·have HP : Az (varE V v = if true = true then 0 else 13) := ⟨by unfold varE; rw [if_pos ⟨h0, h1⟩, if_pos rfl]⟩
   rcases hf with rfl | rfl | rfl
   all_goals
    go_enter Tryd.func97, Tryd.ntmps97
    go_wp2_with (first | (go_at_call 69; refine (HO.out _ _).mono ?_; rintro e w' ⟨rfl, rfl⟩) | (go_at_call 70; refine (HO.out _ _).mono ?_; rintro e w' ⟨rfl, rfl⟩) | (go_at_call 71; refine (HO.out _ _).mono ?_; rintro e w' ⟨rfl, rfl⟩))
    refine (must_true _ _ _).mono ?_
    rintro e w' ⟨rfl, rfl⟩
    go_wp2_with fail
    go_end0
    exact askPost_ok HP.out (Below.refl _ _)
  ·have HP : Az (varE V v = 13) := ⟨by unfold varE; rw [if_neg (fun h => h1 h.2)]⟩
   have h1b : decide (v < V) = false := decide_eq_false h1
   rcases hf with rfl | rfl | rfl
   all_goals
    go_enter Tryd.func97, Tryd.ntmps97
    go_wp2_with (first | (go_at_call 69; refine (HO.out _ _).mono ?_; rintro e w' ⟨rfl, rfl⟩) | (go_at_call 70; refine (HO.out _ _).mono ?_; rintro e w' ⟨rfl, rfl⟩) | (go_at_call 71; refine (HO.out _ _).mono ?_; rintro e w' ⟨rfl, rfl⟩))
    refine (must_false _ _ _ _ H4.out).mono ?_
    rintro e w' ⟨rfl, rfl⟩
    go_wp2_with fail
    exact ⟨rfl, askPost_no HP.out (by decide) (Below.refl _ _)⟩
 ·have HP : Az (varE V v = 13) := ⟨by unfold varE; rw [if_neg (fun h => h0 h.1)]⟩
  have h0b : decide (0 ≤ v) = false := decide_eq_false h0
  rcases hf with rfl | rfl | rfl
  all_goals
   go_enter Tryd.func97, Tryd.ntmps97
   go_wp2_with (first | (go_at_call 69; refine (HO.out _ _).mono ?_; rintro e w' ⟨rfl, rfl⟩) | (go_at_call 70; refine (HO.out _ _).mono ?_; rintro e w' ⟨rfl, rfl⟩) | (go_at_call 71; refine (HO.out _ _).mono ?_; rintro e w' ⟨rfl, rfl⟩))
   refine (must_false _ _ _ _ H4.out).mono ?_
   rintro e w' ⟨rfl, rfl⟩
   go_wp2_with fail
   exact ⟨rfl, askPost_no HP.out (by decide) (Below.refl _ _)⟩
theorem end75 (g : Nat) (n : Int) (w : World) : Calls Tryd.prog 75 #[.pointer (some ⟨g, 0, none⟩), .int .i64 n] w fun e w' => e = .returned (.int .i64 9) ∧ w' = w := by
 go_enter Tryd.func75, Tryd.ntmps75
 go_wp2
 go_ret
 exact ⟨rfl, rfl⟩
theorem end76 (g : Nat) (n : Int) (w : World) : Calls Tryd.prog 76 #[.pointer (some ⟨g, 0, none⟩), .int .i64 n] w fun e w' => e = .returned (.int .i64 8) ∧ w' = w := by
 go_enter Tryd.func76, Tryd.ntmps76
 go_wp2
 go_ret
 exact ⟨rfl, rfl⟩
theorem end77 (g : Nat) (n G : Int) (w : World) (h : w.cell? ⟨g, 0, none⟩ = some (.int .i64 G)) : Calls Tryd.prog 77 #[.pointer (some ⟨g, 0, none⟩), .int .i64 n] w fun e w' => e = .returned (.int .i64 G) ∧ w' = w := by
 go_enter Tryd.func77, Tryd.ntmps77
 go_wp2
 go_ret
 exact ⟨rfl, rfl⟩
theorem end78 (g : Nat) (n : Int) (A : Option Addr) (m c : Nat) (w : World) (h : w.cell? ⟨g, 1, none⟩ = some (.slice A m c)) : Calls Tryd.prog 78 #[.pointer (some ⟨g, 0, none⟩), .int .i64 n] w fun e w' => e = .returned (.int .i64 (m : Int)) ∧ w' = w := by
 go_enter Tryd.func78, Tryd.ntmps78
 go_wp2
 go_ret
 exact ⟨rfl, rfl⟩
theorem end79 (g : Nat) (n : Int) (w : World) : Calls Tryd.prog 79 #[.pointer (some ⟨g, 0, none⟩), .int .i64 n] w fun e w' => e = .returned (.int .i64 n) ∧ w' = w := by
 go_enter Tryd.func79, Tryd.ntmps79
 go_wp2
 go_ret
 exact ⟨rfl, rfl⟩
theorem wp_tail {P : Program} {id : Nat} {Q : Exit → Act → World → Prop} {a : Act} {w : World} {l : List Oper} (n : Nat) (hm : P.follows .mixedOrders = true) (hB : Region.lexTailB .any l.toArray n = true)
  (h : wpStill P l.toArray w.drew (fun a' => wpList P l.toArray Q (l.drop n) a' w.drew) (l.take n) a) : (Code.region id l.toArray true).wp P Q a w := wp_region_still_tail n hm hB h
def numE (lo E er v : Int) : Int := if lo ≤ v ∧ v < E then 0 else er
def Enters (f : Nat) : Prop := ∀ (args : Array Value) (w : World), (callFunc f args).run Tryd.prog w = .ok (.enter f args) w
theorem ent75 : Enters 75 := fun _ _ => enters_ Tryd.func75 (by kernel_rfl) (by kernel_rfl) _ _
theorem ent76 : Enters 76 := fun _ _ => enters_ Tryd.func76 (by kernel_rfl) (by kernel_rfl) _ _
theorem ent77 : Enters 77 := fun _ _ => enters_ Tryd.func77 (by kernel_rfl) (by kernel_rfl) _ _
theorem ent78 : Enters 78 := fun _ _ => enters_ Tryd.func78 (by kernel_rfl) (by kernel_rfl) _ _
theorem ent79 : Enters 79 := fun _ _ => enters_ Tryd.func79 (by kernel_rfl) (by kernel_rfl) _ _
theorem ent81 : Enters 81 := fun _ _ => enters_ Tryd.func81 (by kernel_rfl) (by kernel_rfl) _ _
theorem ent82 : Enters 82 := fun _ _ => enters_ Tryd.func82 (by kernel_rfl) (by kernel_rfl) _ _
theorem ent83 : Enters 83 := fun _ _ => enters_ Tryd.func83 (by kernel_rfl) (by kernel_rfl) _ _
theorem ent84 : Enters 84 := fun _ _ => enters_ Tryd.func84 (by kernel_rfl) (by kernel_rfl) _ _
theorem ent85 : Enters 85 := fun _ _ => enters_ Tryd.func85 (by kernel_rfl) (by kernel_rfl) _ _
set_option maxRecDepth 100000 in
set_option maxHeartbeats 1600000 in
theorem ask_num (f : Nat) (hf : Enters f) (E lo er : Int) (her : er ≠ 0) (g b3 b4 b5 : Nat) (qf qx : Addr) (n v at_ : Int) (w : World) (hend : Calls Tryd.prog f #[.pointer (some ⟨g, 0, none⟩), .int .i64 n] w.drew fun e w' => e = .returned (.int .i64 E) ∧ w' = w.drew)
  (h4 : w.cell? ⟨g, 4, none⟩ = some (.int .i64 at_)) (hv : w.cell? ⟨qx.block, qx.off + 4, none⟩ = some (.int .i64 v)) (hb3 : w.heap[b3]? = some (.cells #[.int .i64 lo] 3 (0, 0))) (hb4 : w.heap[b4]? = some (.cells #[.int .i64 er] 27 (0, 0))) (hb5 : w.heap[b5]? = some (.cells #[.func (Fn.func f) #[] #[]] 111 (0, 0))) :
  Calls Tryd.prog 102 #[.pointer (some ⟨g, 0, none⟩), .pointer (some qf), .pointer (some qx), .int .i64 n, .pointer (some ⟨b3, 0, none⟩), .pointer (some ⟨b5, 0, none⟩), .pointer (some ⟨b4, 0, none⟩)] w fun e w' => AskPost w (numE lo E er v) at_ e w' := by
 have hc3 : w.cell? ⟨b3, 0, none⟩ = some (.int .i64 lo) := (bZ hb3 0).trans rfl
 have hc4 : w.cell? ⟨b4, 0, none⟩ = some (.int .i64 er) := (bZ hb4 0).trans rfl
 have hc5 : w.cell? ⟨b5, 0, none⟩ = some (.func (Fn.func f) #[] #[]) := (bZ hb5 0).trans rfl
 have HE := Az.mk hend
 have H4 : Az (w.drew.cell? ⟨g, 4, none⟩ = some (.int .i64 at_)) := ⟨h4⟩
 have HR := Az.mk her
 have hen : ∀ (args : Array Value) (w : World), (callFunc f args).run Tryd.prog w = .ok (.enter f args) w := hf
 clear hend h4 hb3 hb4 hb5 her hf
 by_cases h0 : lo ≤ v
 ·by_cases h1 : v < E
  ·have HP : Az (numE lo E er v = 0) := ⟨by unfold numE; rw [if_pos ⟨h0, h1⟩]⟩
   go_enter Tryd.func102, Tryd.ntmps102
   go_wp2
   refine wp_tail 19 (by kernel_rfl) (by kernel_rfl) ?_
   simp only [List.take_succ_cons, List.take_zero, List.drop_succ_cons, List.drop_zero]
   repeat still_step
   still_call HE.out
   repeat still_step
   refine wpStill_nil ?_
   go_wp2_with (go_at_call 42; refine (must_true _ _ _).mono ?_; rintro e w' ⟨rfl, rfl⟩)
   go_end0
   exact askPost_ok HP.out (below_drew (Below.refl _ _))
  ·have HP : Az (numE lo E er v = er) := ⟨by unfold numE; rw [if_neg (fun h => h1 h.2)]⟩
   have h1b : decide (v < E) = false := decide_eq_false h1
   clear h1
   go_enter Tryd.func102, Tryd.ntmps102
   go_wp2
   refine wp_tail 19 (by kernel_rfl) (by kernel_rfl) ?_
   simp only [List.take_succ_cons, List.take_zero, List.drop_succ_cons, List.drop_zero]
   repeat still_step
   still_call HE.out
   repeat still_step
   refine wpStill_nil ?_
   go_wp2_with (go_at_call 42; refine (must_false _ _ _ _ H4.out).mono ?_; rintro e w' ⟨rfl, rfl⟩)
   exact ⟨rfl, askPost_no HP.out HR.out (below_drew (Below.refl _ _))⟩
 ·have HP : Az (numE lo E er v = er) := ⟨by unfold numE; rw [if_neg (fun h => h0 h.1)]⟩
  have h0b : decide (lo ≤ v) = false := decide_eq_false h0
  clear h0
  go_enter Tryd.func102, Tryd.ntmps102
  refine start_ (n := 20) (S := fun w' => w'.cell? ⟨qx.block, qx.off + 4, none⟩ = some (.int .i64 v) ∧ w'.cell? ⟨b3, 0, none⟩ = some (.int .i64 lo) ∧ w'.cell? ⟨b4, 0, none⟩ = some (.int .i64 er)) (ds := []) #[false, false, false, false, false, false, false, false, false, false, false, false, false, false, false, false, false, false, false, false] (by kernel_rfl) rfl rfl ⟨hv, hc3, hc4⟩ (fun hHeld => ?_)
  refine with_tabW TAB_102.tab0 TAB_102.bits0 (fun HT_ HW_ => ?_)
  refine pq 0 (some 11) HT_ rfl rfl (fun _ _ _ h => h) ?_
  refine pq 1 (some 12) HT_ rfl rfl (fun _ _ _ h => h) ?_
  refine pq 2 (some 13) HT_ rfl rfl (fun _ _ _ h => h) ?_
  refine pq 3 (some 14) HT_ rfl rfl (fun _ _ _ h => h) ?_
  refine pt 4 (some 15) (v := ?_) (a' := ?_) rfl rfl (take_ofW HT_.out HW_.out (by kernel_rfl)) (fun _ _ _ h => h) (Or.inl ⟨by rfl, ?_⟩) hHeld ?_ ?_
  rotate_left; (rintro w' ⟨s0, s1, s2⟩; go_simp; with_reducible rfl); rotate_left; (simp only [Act.put, pn, i64_w, i32_w]; rfl)
  refine pt 5 (some 16) (v := ?_) (a' := ?_) rfl rfl (take_ofW HT_.out HW_.out (by kernel_rfl)) (fun _ _ _ h => h) (Or.inl ⟨by rfl, ?_⟩) hHeld ?_ ?_
  rotate_left; (rintro w' ⟨s0, s1, s2⟩; go_simp; with_reducible rfl); rotate_left; (simp only [Act.put, pn, i64_w, i32_w]; rfl)
  refine pq 6 (some 17) HT_ rfl rfl (fun _ _ _ h => h) ?_
  refine pq 7 (some 18) HT_ rfl rfl (fun _ _ _ h => h) ?_
  refine pure_ (i := 8) (N := some 19) (v := undef) (a' := ?_) #[true, true, true, true, true, true, true, true, true, false, false, false, false, false, false, false, false, false, false, false] rfl rfl (any_of HT_.out (by kernel_rfl)) (fun _ _ _ h => h) (Or.inr ⟨by rfl, rfl⟩) ?_ ?_
  rotate_left
  ·simp only [Act.put, pn, i64_w, i32_w]
   rfl
  refine pure_ (i := 9) (N := some 20) (v := undef) (a' := ?_) #[true, true, true, true, true, true, true, true, true, true, false, false, false, false, false, false, false, false, false, false] rfl rfl (any_of HT_.out (by kernel_rfl)) (fun _ _ _ h => h) (Or.inr ⟨by rfl, rfl⟩) ?_ ?_
  rotate_left
  ·simp only [Act.put, pn, i64_w, i32_w]
   rfl
  refine pure_ (i := 10) (N := some 21) (v := undef) (a' := ?_) #[true, true, true, true, true, true, true, true, true, true, true, false, false, false, false, false, false, false, false, false] rfl rfl (any_of HT_.out (by kernel_rfl)) (fun _ _ _ h => h) (Or.inr ⟨by rfl, rfl⟩) ?_ ?_
  rotate_left
  ·simp only [Act.put, pn, i64_w, i32_w]
   rfl
  refine pure_ (i := 11) (N := some 22) (v := undef) (a' := ?_) #[true, true, true, true, true, true, true, true, true, true, true, true, false, false, false, false, false, false, false, false] rfl rfl (any_of HT_.out (by kernel_rfl)) (fun _ _ _ h => h) (Or.inr ⟨by rfl, rfl⟩) ?_ ?_
  rotate_left
  ·simp only [Act.put, pn, i64_w, i32_w]
   rfl
  refine pure_ (i := 12) (N := some 23) (v := undef) (a' := ?_) #[true, true, true, true, true, true, true, true, true, true, true, true, true, false, false, false, false, false, false, false] rfl rfl (any_of HT_.out (by kernel_rfl)) (fun _ _ _ h => h) (Or.inr ⟨by rfl, rfl⟩) ?_ ?_
  rotate_left
  ·simp only [Act.put, pn, i64_w, i32_w]
   rfl
  refine pure_ (i := 13) (N := some 24) (v := undef) (a' := ?_) #[true, true, true, true, true, true, true, true, true, true, true, true, true, true, false, false, false, false, false, false] rfl rfl (any_of HT_.out (by kernel_rfl)) (fun _ _ _ h => h) (Or.inr ⟨by rfl, rfl⟩) ?_ ?_
  rotate_left
  ·simp only [Act.put, pn, i64_w, i32_w]
   rfl
  refine pure_ (i := 14) (N := some 25) (v := undef) (a' := ?_) #[true, true, true, true, true, true, true, true, true, true, true, true, true, true, true, false, false, false, false, false] rfl rfl (any_of HT_.out (by kernel_rfl)) (fun _ _ _ h => h) (Or.inr ⟨by rfl, rfl⟩) ?_ ?_
  rotate_left
  ·simp only [Act.put, pn, i64_w, i32_w]
   rfl
  refine pure_ (i := 15) (N := some 26) (v := undef) (a' := ?_) #[true, true, true, true, true, true, true, true, true, true, true, true, true, true, true, true, false, false, false, false] rfl rfl (any_of HT_.out (by kernel_rfl)) (fun _ _ _ h => h) (Or.inr ⟨by rfl, rfl⟩) ?_ ?_
  rotate_left
  ·simp only [Act.put, pn, i64_w, i32_w]
   rfl
  refine pure_ (i := 16) (N := some 27) (v := undef) (a' := ?_) #[true, true, true, true, true, true, true, true, true, true, true, true, true, true, true, true, true, false, false, false] rfl rfl (any_of HT_.out (by kernel_rfl)) (fun _ _ _ h => h) (Or.inr ⟨by rfl, rfl⟩) ?_ ?_
  rotate_left
  ·simp only [Act.put, pn, i64_w, i32_w]
   rfl
  refine pq 17 (some 28) HT_ rfl rfl (fun _ _ _ h => h) ?_
  refine pt 18 (some 29) (v := ?_) (a' := ?_) rfl rfl (take_ofW HT_.out HW_.out (by kernel_rfl)) (fun _ _ _ h => h) (Or.inl ⟨by rfl, ?_⟩) hHeld ?_ ?_
  rotate_left; (rintro w' ⟨s0, s1, s2⟩; go_simp; with_reducible rfl); rotate_left; (simp only [Act.put, pn, i64_w, i32_w]; rfl)
  refine one_ (i := 19) (N := some 30) #[true, true, true, true, true, true, true, true, true, true, true, true, true, true, true, true, true, true, true, true] rfl rfl (one_of HT_.out (by kernel_rfl)) (by decide) (fun K hK => ?_)
  refine goesP_ Tryd.func42 (by kernel_rfl) rfl #[.pointer (some ⟨g, 0, none⟩), .bool false, .int .i64 er] (by rfl) rfl rfl (by simp only [List.map_toArray, List.map_cons, List.map_nil]; rfl) ?_
  with_reducible refine (must_false _ _ _ _ H4.out).mono ?_
  rintro e_ wc ⟨rfl, rfl⟩
  refine ⟨_, rfl, ?_⟩
  exact ⟨rfl, askPost_no HP.out HR.out (below_drew (Below.refl _ _))⟩
theorem of81 (q : Addr) (w : World) : Calls Tryd.prog 81 #[.pointer (some q)] w fun e w' => e = .returned (.pointer (some ⟨q.block, q.off + 5, none⟩)) ∧ w = w' := by
 go_enter Tryd.func81, Tryd.ntmps81
 go_wp2
 go_ret
 exact ⟨rfl, rfl⟩
theorem of83 (q : Addr) (w : World) : Calls Tryd.prog 83 #[.pointer (some q)] w fun e w' => e = .returned (.pointer (some ⟨q.block, q.off + 6, none⟩)) ∧ w = w' := by
 go_enter Tryd.func83, Tryd.ntmps83
 go_wp2
 go_ret
 exact ⟨rfl, rfl⟩
theorem want85 (g : Nat) (qf qx : Addr) (R : Int) (w : World) (h : w.cell? ⟨qf.block, qf.off + 1, none⟩ = some (.int .i64 R)) : Calls Tryd.prog 85 #[.pointer (some ⟨g, 0, none⟩), .pointer (some qf), .pointer (some qx)] w fun e w' => e = .returned (.int .i64 R) ∧ Below w.heap.size w w' := by
 go_enter Tryd.func85, Tryd.ntmps85
 go_wp2
 go_ret
 exact ⟨rfl, Below.refl _ _⟩
theorem want82 (g : Nat) (qf qx ad : Addr) (m c : Nat) (N P : Int) (w : World) (h1 : w.cell? ⟨g, 1, none⟩ = some (.slice (some ad) m c)) (hN : w.cell? ⟨qx.block, qx.off + 4, none⟩ = some (.int .i64 N)) (h0 : 0 ≤ N) (h2 : N < m) (hP : w.cell? (ad.add (N.toNat * 4)) = some (.int .i64 P)) : Calls Tryd.prog 82 #[.pointer (some ⟨g, 0, none⟩), .pointer (some qf), .pointer (some qx)] w fun e w' => e = .returned (.int .i64 P) ∧ Below w.heap.size w w' := by
 go_enter Tryd.func82, Tryd.ntmps82
 go_wp2
 go_quiet (fail)
 go_wp2
 go_ret
 exact ⟨rfl, pZ (Below.refl _ _) _⟩
theorem want84 (g : Nat) (qf qx ad : Addr) (m c : Nat) (N P : Int) (w : World) (h1 : w.cell? ⟨g, 1, none⟩ = some (.slice (some ad) m c)) (hN : w.cell? ⟨qx.block, qx.off + 4, none⟩ = some (.int .i64 N)) (h0 : 0 ≤ N) (h2 : N < m) (hP : w.cell? ⟨(ad.add (N.toNat * 4)).block, (ad.add (N.toNat * 4)).off + 1, none⟩ = some (.int .i64 P)) : Calls Tryd.prog 84 #[.pointer (some ⟨g, 0, none⟩), .pointer (some qf), .pointer (some qx)] w fun e w' => e = .returned (.int .i64 P) ∧ Below w.heap.size w w' := by
 go_enter Tryd.func84, Tryd.ntmps84
 go_wp2
 go_quiet (fail)
 go_wp2
 go_ret
 exact ⟨rfl, pZ (Below.refl _ _) _⟩
def varB (V v : Int) : Bool := decide (0 ≤ v) && decide (v < V)
def listE (W V : Int) (l : List Int) : Int := if (l.length : Int) = W then (if l.all (varB V) = true then 0 else 13) else 15
theorem wrap_in {x : Int} (h0 : -9223372036854775808 ≤ x) (h1 : x ≤ 9223372036854775807) : wrap64 x = x := by unfold wrap64; omega
theorem rd_get (xs : List Int) (i : Nat) (h : i < xs.length) : rd xs (i : Int) = xs[i] := by unfold rd; rw [Int.toNat_natCast, List.getD_eq_getElem?_getD, List.getElem?_eq_getElem h]; rfl
theorem take_all (V : Int) (l : List Int) (q : Nat) (h : q < l.length) : (l.take (q + 1)).all (varB V) = ((l.take q).all (varB V) && varB V l[q]) := by
 rw [List.take_succ_eq_append_getElem h, List.all_append]
 simp
theorem not_all (V : Int) (l : List Int) (q : Nat) (h : q < l.length) (hb : varB V l[q] = false) : l.all (varB V) = false := by
 rw [Bool.eq_false_iff]
 intro ha
 rw [List.all_eq_true] at ha
 rw [ha _ (List.getElem_mem h)] at hb
 cases hb
set_option maxRecDepth 100000 in
set_option maxHeartbeats 1600000 in
theorem ask_list (fo fw j : Nat) (ho : Enters fo) (hw : Enters fw) (g b4 b5 : Nat) (qf qx : Addr) (n V W at_ : Int) (A : Option Addr) (c : Nat) (l : List Int) (w : World)
  (hof : Calls Tryd.prog fo #[.pointer (some qx)] w fun e w' => e = .returned (.pointer (some ⟨qx.block, qx.off + j, none⟩)) ∧ w = w')
  (hwant : Calls Tryd.prog fw #[.pointer (some ⟨g, 0, none⟩), .pointer (some qf), .pointer (some qx)] w fun e w' => e = .returned (.int .i64 W) ∧ Below w.heap.size w w')
  (h4 : w.cell? ⟨g, 4, none⟩ = some (.int .i64 at_)) (hl : w.cell? ⟨qx.block, qx.off + j, none⟩ = some (.slice A l.length c)) (hV : w.cell? ⟨qf.block, qf.off + 2, none⟩ = some (.int .i64 V)) (hC : (Kd.int .i64).C w A l.length l)
  (hb4 : w.heap[b4]? = some (.cells #[.func (Fn.func fo) #[] #[]] 113 (0, 0))) (hb5 : w.heap[b5]? = some (.cells #[.func (Fn.func fw) #[] #[]] 114 (0, 0))) :
  Calls Tryd.prog 103 #[.pointer (some ⟨g, 0, none⟩), .pointer (some qf), .pointer (some qx), .int .i64 n, .pointer (some ⟨b4, 0, none⟩), .pointer (some ⟨b5, 0, none⟩)] w fun e w' => AskPost w (listE W V l) at_ e w' := by
 have hc4 : w.cell? ⟨b4, 0, none⟩ = some (.func (Fn.func fo) #[] #[]) := (bZ hb4 0).trans rfl
 have hc5 : w.cell? ⟨b5, 0, none⟩ = some (.func (Fn.func fw) #[] #[]) := (bZ hb5 0).trans rfl
 have HO := Az.mk hof
 have HW := Az.mk hwant
 have H4 := Az.mk h4
 have HV := Az.mk hV
 have HC := Az.mk hC
 have hm : l.length ≤ 9223372036854775807 := Kd.C_max hC
 have hen : ∀ (args : Array Value) (w : World), (callFunc fo args).run Tryd.prog w = .ok (.enter fo args) w := ho
 have hen2 : ∀ (args : Array Value) (w : World), (callFunc fw args).run Tryd.prog w = .ok (.enter fw args) w := hw
 obtain ⟨L, hL⟩ : ∃ L, L = l.length := ⟨_, rfl⟩
 have HL := Az.mk hL
 rw [← hL] at hl hm
 clear hof hwant h4 hV hC hb4 hb5 ho hw hL
 go_enter Tryd.func103, Tryd.ntmps103
 go_wp2_with fail
 refine HO.out.mono ?_
 rintro e w' ⟨rfl, rfl⟩
 go_wp2_with fail
 refine HW.out.mono ?_
 rintro e w1 ⟨rfl, hb⟩
 have HB := Az.mk hb
 have H41 := Az.mk (cZ hb H4.out)
 have hV1 := cZ hb HV.out
 clear hb hl hc4 hc5 hen hen2
 by_cases hlen : (L : Int) = W
 ·have e1 : ((L : Int) == W) = true := by rw [beq_iff_eq]; exact hlen
  have HE : Az (listE W V l = if l.all (varB V) = true then 0 else 13) := ⟨by unfold listE; rw [if_pos (by rw [← HL.out]; exact hlen)]⟩
  clear hlen
  go_wp2_with (go_at_call 42; refine (must_true _ _ _).mono ?_; rintro e w' ⟨rfl, rfl⟩)
  go_loop [30] (fun v30 => ∃ q : Nat, q ≤ L ∧ v30 = .int .i64 (q : Int) ∧ Az ((l.take q).all (varB V) = true)) (fun i => L - (intOf i).toNat)
  case atStart => exact ⟨0, Nat.zero_le _, rfl, ⟨by simp⟩⟩
  case round =>
   obtain ⟨q, hq, rfl, HA⟩ := hrel
   by_cases hlt : q < L
   ·have q0 : (0 : Int) ≤ (q : Int) := by omega
    have q1 : (q : Int) < (L : Int) := by omega
    have hql : q < l.length := by rw [← HL.out]; exact hlt
    have hwp : wrap64 ((q : Int) + 1) = (q : Int) + 1 := wrap_in (by omega) (by omega)
    obtain ⟨ad, e0, hx⟩ := Kd.at_int (Kd.C_below HC.out HB.out) (q : Int) q0 (by rw [← HL.out]; exact q1)
    subst e0
    rw [rd_get l q hql, Int.toNat_natCast] at hx
    have HT := Az.mk (take_all V l q hql)
    have HN := Az.mk (not_all V l q hql)
    obtain ⟨v, hv⟩ : ∃ v, v = l[q] := ⟨_, rfl⟩
    rw [← hv] at hx HT HN
    clear hv hql
    by_cases h0 : 0 ≤ v
    ·by_cases h1 : v < V
     ·have HV2 : Az ((l.take (q + 1)).all (varB V) = true) := ⟨by rw [HT.out, HA.out]; unfold varB; rw [decide_eq_true h0, decide_eq_true h1]; rfl⟩
      go_wp2_with (go_at_call 42; refine (must_true _ _ _).mono ?_; rintro e w' ⟨rfl, rfl⟩)
      go_round
      case rel => exact ⟨q + 1, by omega, by go_num, HV2⟩
      case measure => simp [intOf]; omega
     ·have h1b : decide (v < V) = false := decide_eq_false h1
      have HP : Az (listE W V l = 13) := ⟨by rw [HE.out, if_neg (by rw [HN.out (by unfold varB; rw [h1b, Bool.and_false])]; decide)]⟩
      clear h1
      go_wp2_with (go_at_call 42; refine (must_false _ _ _ _ H41.out).mono ?_; rintro e w' ⟨rfl, rfl⟩)
      exact ⟨rfl, askPost_no HP.out (by decide) HB.out⟩
    ·have h0b : decide (0 ≤ v) = false := decide_eq_false h0
     have HP : Az (listE W V l = 13) := ⟨by rw [HE.out, if_neg (by rw [HN.out (by unfold varB; rw [h0b, Bool.false_and])]; decide)]⟩
     clear h0
     go_wp2_with (go_at_call 42; refine (must_false _ _ _ _ H41.out).mono ?_; rintro e w' ⟨rfl, rfl⟩)
     exact ⟨rfl, askPost_no HP.out (by decide) HB.out⟩
   ·obtain rfl : L = q := by omega
    have HP : Az (listE W V l = 0) := ⟨by have h := HA.out; rw [HL.out, List.take_of_length_le (Nat.le_refl _)] at h; rw [HE.out, if_pos h]⟩
    go_wp2_with fail
    go_end0
    exact askPost_ok HP.out HB.out
 ·have e1 : ((L : Int) == W) = false := by rw [beq_eq_false_iff_ne]; exact hlen
  have HP : Az (listE W V l = 15) := ⟨by unfold listE; rw [if_neg (by rw [← HL.out]; exact hlen)]⟩
  clear hlen
  go_wp2_with (go_at_call 42; refine (must_false _ _ _ _ H41.out).mono ?_; rintro e w' ⟨rfl, rfl⟩)
  exact ⟨rfl, askPost_no HP.out (by decide) HB.out⟩
def maskOf : PK → Int
 | .R => 1
 | .S => 2
 | .T => 4
 | .int | .fields | .field | .glob | .func | .jump => 8
 | .args | .vals => 16
 | .rets => 32
theorem mask_is {w : World} {c0 c1 c2 c3 : Value} : ∀ {k : PK}, PartIs w k [c0, c1, c2, c3] → c0 = .int .i64 (maskOf k)
 | .R, ⟨_, _, h, _⟩ => (List.cons.inj h).1
 | .S, ⟨_, _, h, _⟩ => (List.cons.inj h).1
 | .T, ⟨_, _, h, _⟩ => (List.cons.inj h).1
 | .int, ⟨_, h, _⟩ => (List.cons.inj h).1
 | .fields, ⟨_, _, _, _, h, _⟩ => (List.cons.inj h).1
 | .field, ⟨_, _, _, _, h, _⟩ => (List.cons.inj h).1
 | .glob, ⟨_, _, _, _, h, _⟩ => (List.cons.inj h).1
 | .func, ⟨_, _, _, _, h, _⟩ => (List.cons.inj h).1
 | .jump, ⟨_, _, _, _, h, _⟩ => (List.cons.inj h).1
 | .args, ⟨_, _, h, _⟩ => (List.cons.inj h).1
 | .rets, ⟨_, _, h, _⟩ => (List.cons.inj h).1
 | .vals, ⟨_, _, h, _⟩ => (List.cons.inj h).1
def masks (ks : List PK) : Int := (ks.map maskOf).foldl (bits .or .i64) 0
theorem masks_next (ks : List PK) (q : Nat) (h : q < ks.length) : masks (ks.take (q + 1)) = bits .or .i64 (masks (ks.take q)) (maskOf ks[q]) := by
 unfold masks
 rw [List.take_succ_eq_append_getElem h, List.map_append, List.foldl_append]
 rfl
theorem fns_is {w : World} {c0 c1 c2 c3 : Value} : ∀ {k : PK}, PartIs w k [c0, c1, c2, c3] → ∃ k1 a1 k2 a2 k3 a3, c1 = .func (Fn.func k1) #[] a1 ∧ c2 = .func (Fn.func k2) #[] a2 ∧ c3 = .func (Fn.func k3) #[] a3
 | .R, ⟨_, _, h, _⟩ => by injection h with _ h; injection h with h1 h; injection h with h2 h; injection h with h3 _; exact ⟨_, _, _, _, _, _, h1, h2, h3⟩
 | .S, ⟨_, _, h, _⟩ => by injection h with _ h; injection h with h1 h; injection h with h2 h; injection h with h3 _; exact ⟨_, _, _, _, _, _, h1, h2, h3⟩
 | .T, ⟨_, _, h, _⟩ => by injection h with _ h; injection h with h1 h; injection h with h2 h; injection h with h3 _; exact ⟨_, _, _, _, _, _, h1, h2, h3⟩
 | .int, ⟨_, h, _⟩ => by injection h with _ h; injection h with h1 h; injection h with h2 h; injection h with h3 _; exact ⟨_, _, _, _, _, _, h1, h2, h3⟩
 | .fields, ⟨_, _, _, _, h, _⟩ => by injection h with _ h; injection h with h1 h; injection h with h2 h; injection h with h3 _; exact ⟨_, _, _, _, _, _, h1, h2, h3⟩
 | .field, ⟨_, _, _, _, h, _⟩ => by injection h with _ h; injection h with h1 h; injection h with h2 h; injection h with h3 _; exact ⟨_, _, _, _, _, _, h1, h2, h3⟩
 | .glob, ⟨_, _, _, _, h, _⟩ => by injection h with _ h; injection h with h1 h; injection h with h2 h; injection h with h3 _; exact ⟨_, _, _, _, _, _, h1, h2, h3⟩
 | .func, ⟨_, _, _, _, h, _⟩ => by injection h with _ h; injection h with h1 h; injection h with h2 h; injection h with h3 _; exact ⟨_, _, _, _, _, _, h1, h2, h3⟩
 | .jump, ⟨_, _, _, _, h, _⟩ => by injection h with _ h; injection h with h1 h; injection h with h2 h; injection h with h3 _; exact ⟨_, _, _, _, _, _, h1, h2, h3⟩
 | .args, ⟨_, _, h, _⟩ => by injection h with _ h; injection h with h1 h; injection h with h2 h; injection h with h3 _; exact ⟨_, _, _, _, _, _, h1, h2, h3⟩
 | .rets, ⟨_, _, h, _⟩ => by injection h with _ h; injection h with h1 h; injection h with h2 h; injection h with h3 _; exact ⟨_, _, _, _, _, _, h1, h2, h3⟩
 | .vals, ⟨_, _, h, _⟩ => by injection h with _ h; injection h with h1 h; injection h with h2 h; injection h with h3 _; exact ⟨_, _, _, _, _, _, h1, h2, h3⟩
def use1 (b : Bool) (k u : Int) : Int := if b = true then bits .or .i64 u k else u
def usedB (B : List Bool) : Nat → Int
 | 0 => 0
 | q + 1 => use1 (B.getD q false) (wrap64 (2 ^ q)) (usedB B q)
def plainB (ks : List PK) (B : List Bool) : Bool := bits .andNot .i64 (usedB B 6) (masks ks) == 0
set_option maxRecDepth 100000 in
set_option maxHeartbeats 8000000 in
theorem plain_any (ks : List PK) (b : Nat) (qx : Addr) (x : S50) (A5 A6 : Option Addr) (n5 c5 n6 c6 : Nat) (w : World) (hr : RowIs w b ks) (hk : ks.length ≤ 3)
  (h1 : w.cell? ⟨qx.block, qx.off + 1, none⟩ = some (.int .i64 x.f1)) (h2 : w.cell? ⟨qx.block, qx.off + 2, none⟩ = some (.int .i64 x.f2)) (h3 : w.cell? ⟨qx.block, qx.off + 3, none⟩ = some (.int .i64 x.f3)) (h4 : w.cell? ⟨qx.block, qx.off + 4, none⟩ = some (.int .i64 x.f4))
  (h5 : w.cell? ⟨qx.block, qx.off + 5, none⟩ = some (.slice A5 n5 c5)) (h6 : w.cell? ⟨qx.block, qx.off + 6, none⟩ = some (.slice A6 n6 c6)) :
  Calls Tryd.prog 92 #[.slice (some ⟨b, 0, none⟩) ks.length ks.length, .pointer (some qx)] w fun e w' => e = .returned (.bool (plainB ks [(x.f1 != 0), (x.f2 != 0), (x.f3 != 0), (x.f4 != 0), decide (0 < n5), decide (0 < n6)])) ∧ Below w.heap.size w w' := by
 have HB := Az.mk (Below.refl w.heap.size w)
 have HR := Az.mk hr
 have HK := Az.mk hk
 have HX := Az.mk (And.intro h1 (And.intro h2 (And.intro h3 (And.intro h4 (And.intro h5 h6)))))
 clear hr hk h1 h2 h3 h4 h5 h6
 obtain ⟨n, hn⟩ : ∃ n, n = ks.length := ⟨_, rfl⟩
 have Hn := Az.mk hn
 rw [← hn] at HK ⊢
 have hm : n ≤ 9223372036854775807 := by have := HK.out; omega
 clear hn
 go_enter Tryd.func92, Tryd.ntmps92
 go_wp2_with fail
 go_loopw [5, 13] (fun v5 v13 w' => ∃ (q : Nat) (M : Int), q ≤ n ∧ v13 = .int .i64 (q : Int) ∧ v5 = .int .i64 M ∧ Az (M = masks (ks.take q)) ∧ Az (Below w.heap.size w w')) (fun _ i _ => n - (intOf i).toNat)
 case atStart => exact ⟨0, 0, Nat.zero_le _, rfl, rfl, ⟨rfl⟩, HB⟩
 case round =>
  obtain ⟨q, M, hq, rfl, rfl, HM, HBq⟩ := hrel
  by_cases hlt : q < n
  ·have q0 : (0 : Int) ≤ (q : Int) := by omega
   have q1 : (q : Int) < (n : Int) := by omega
   have hwp : wrap64 ((q : Int) + 1) = (q : Int) + 1 := wrap_in (by omega) (by omega)
   have hql : q < ks.length := by rw [← Hn.out]; exact hlt
   obtain ⟨c0, c1, c2, c3, hp, z0, z1, z2, z3⟩ := HR.out q ks[q] (List.getElem?_eq_getElem hql)
   have hc0 := mask_is hp
   subst hc0
   obtain ⟨k1, a1, k2, a2, k3, a3, rfl, rfl, rfl⟩ := fns_is hp
   replace z0 := cZ HBq.out z0
   replace z1 := cZ HBq.out z1
   replace z2 := cZ HBq.out z2
   replace z3 := cZ HBq.out z3
   clear hp
   have HMn : Az (bits .or .i64 M (maskOf ks[q]) = masks (ks.take (q + 1))) := ⟨by rw [masks_next ks q hql, HM.out]⟩
   have HBn : Az (Below w.heap.size w (wr.alloc (.cells #[.int .i64 (maskOf ks[q]), .func (Fn.func k1) #[] a1, .func (Fn.func k2) #[] a2, .func (Fn.func k3) #[] a3] 69))) := ⟨lZ HBq.out _⟩
   go_wp2_with fail
   go_roundw
   case rel => exact ⟨q + 1, _, by omega, by go_num, rfl, HMn, HBn⟩
   case measure => simp [intOf]; omega
  ·obtain rfl : n = q := by omega
   have HMn : Az (M = masks ks) := ⟨by have h := HM.out; rwa [Hn.out, List.take_of_length_le (Nat.le_refl _)] at h⟩
   have h1 := cZ HBq.out HX.out.1
   have h2 := cZ HBq.out HX.out.2.1
   have h3 := cZ HBq.out HX.out.2.2.1
   have h4 := cZ HBq.out HX.out.2.2.2.1
   have h5 := cZ HBq.out HX.out.2.2.2.2.1
   have h6 := cZ HBq.out HX.out.2.2.2.2.2
   obtain ⟨b0, hb0⟩ : ∃ b, (x.f1 != 0) = b := ⟨_, rfl⟩
   obtain ⟨b1, hb1⟩ : ∃ b, (x.f2 != 0) = b := ⟨_, rfl⟩
   obtain ⟨b2, hb2⟩ : ∃ b, (x.f3 != 0) = b := ⟨_, rfl⟩
   obtain ⟨b3, hb3⟩ : ∃ b, (x.f4 != 0) = b := ⟨_, rfl⟩
   obtain ⟨b4, hb4⟩ : ∃ b, decide (0 < n5) = b := ⟨_, rfl⟩
   obtain ⟨b5, hb5⟩ : ∃ b, decide (0 < n6) = b := ⟨_, rfl⟩
   have HBs : Az ([(x.f1 != 0), (x.f2 != 0), (x.f3 != 0), (x.f4 != 0), decide (0 < n5), decide (0 < n6)] = [b0, b1, b2, b3, b4, b5]) := ⟨by rw [hb0, hb1, hb2, hb3, hb4, hb5]⟩
   go_wp2_with fail
   go_quiet (fail)
   clear hb0 hb1 hb2 hb3 hb4 hb5 h1 h2 h3 h4 h5 h6
   have HBq2 : Az (Below w.heap.size w (wr.drewN nq)) := ⟨pZ HBq.out nq⟩
   go_wp2_with fail
   have ix : ∀ (q : Nat), q < 6 → ∀ w : World, (Instr.index 128 (.agg #[.bool b0, .bool b1, .bool b2, .bool b3, .bool b4, .bool b5]) (.int .i64 (q : Int))).run Tryd.prog w = .ok (.bool ([b0, b1, b2, b3, b4, b5].getD q false)) w := fun q hq w => by
    have : q = 0 ∨ q = 1 ∨ q = 2 ∨ q = 3 ∨ q = 4 ∨ q = 5 := by omega
    rcases this with rfl | rfl | rfl | rfl | rfl | rfl <;> rfl
   have IX := Az.mk ix
   clear ix
   obtain ⟨B, hBd⟩ : ∃ B, B = [b0, b1, b2, b3, b4, b5] := ⟨_, rfl⟩
   rw [← hBd] at IX HBs
   clear hBd
   go_loop [8, 55] (fun v8 v55 => ∃ q : Nat, q ≤ 6 ∧ v55 = .int .i64 (q : Int) ∧ v8 = .int .i64 (usedB B q)) (fun _ i => 6 - (intOf i).toNat)
   case atStart => exact ⟨0, by omega, rfl, rfl⟩
   case round =>
    obtain ⟨q, hq, rfl, rfl⟩ := hrel
    by_cases hlt : q < 6
    ·have q1 : (q : Int) < 6 := by omega
     have q0 : (0 : Int) ≤ (q : Int) := by omega
     have hwp : wrap64 ((q : Int) + 1) = (q : Int) + 1 := wrap_in (by omega) (by omega)
     have hix := IX.out q hlt
     obtain ⟨U, hU⟩ : ∃ U, U = usedB B q := ⟨_, rfl⟩
     have HU : Az (usedB B (q + 1) = use1 (B.getD q false) (wrap64 (2 ^ q)) U) := ⟨by rw [hU]; rfl⟩
     rw [← hU]
     clear hU
     cases hc : B.getD q false with
     | true =>
      rw [hc] at hix HU
      have HU2 : Az (usedB B (q + 1) = bits .or .i64 U (wrap64 (2 ^ q))) := ⟨HU.out⟩
      clear HU hc
      go_wp2_with fail
      go_round
      case rel => exact ⟨q + 1, by omega, by go_num, by rw [HU2.out]⟩
      case measure => simp [intOf]; omega
     | false =>
      rw [hc] at hix HU
      have HU2 : Az (usedB B (q + 1) = U) := ⟨HU.out⟩
      clear HU hc
      go_wp2_with fail
      go_round
      case rel => exact ⟨q + 1, by omega, by go_num, by rw [HU2.out]⟩
      case measure => simp [intOf]; omega
    ·obtain rfl : 6 = q := by omega
     go_wp2_with fail
     go_ret
     have HP : plainB ks [(x.f1 != 0), (x.f2 != 0), (x.f3 != 0), (x.f4 != 0), decide (0 < n5), decide (0 < n6)] = (bits .andNot .i64 (usedB B 6) M == 0) := by rw [HBs.out, HMn.out]; rfl
     exact ⟨by rw [HP]; rfl, HBq2.out⟩
end Go.Proofs.YteonppgdmhakoaaDoor.PC
namespace Go.Proofs.YteonppgdmhakoaaDoor.PC
open Go.RowKit Go.Proofs.YteonppgdmhakoaaDoorW.PrintWords Go.Proofs.YteonppgdmhakoaaDoorW.PrintLast Go.Proofs.YteonppgdmhakoaaDoorW.PrintMore
attribute [local go_sem] max2_int min2_int max_two min_two
set_option linter.unusedVariables false
set_option linter.unusedSimpArgs false
def TAB_58.T0 : Bool × List (List Nat × List Nat) := (true, [([], []), ([0], [0]), ([1], [1]), ([2], [2]), ([3], [3]), ([4], [4]), ([5], [5]), ([6, 5], [5, 6]), ([7, 5], [5, 7]), ([8, 5], [5, 8]), ([5], [5]), ([10, 5], [5, 10]), ([11, 5], [5, 11]), ([12, 5], [5, 12]), ([13, 5], [5, 13]), ([9, 14, 5], [5, 9, 14]), ([5, 15], [5, 15]), ([16, 5, 0, 1, 2, 3, 4, 5, 6, 7, 8, 9, 10, 11, 12, 13, 14, 15, 16], [16])])
def TAB_58.B0 : List Nat := [0, 1, 3, 7, 15, 31, 63, 127, 255, 511, 63, 1087, 3135, 7231, 15423, 32767, 65535, 131071]
theorem TAB_58.tab0 : rtab .any (opsOf Tryd.f58 0) = TAB_58.T0 := by kernel_rfl
theorem TAB_58.bits0 : waitsOk TAB_58.T0.2 TAB_58.B0 = true := by kernel_rfl
def TAB_58.T3 : Bool × List (List Nat × List Nat) := (true, [([], []), ([0], [0]), ([1], [1]), ([2], [2]), ([], []), ([4], [4]), ([5], [5]), ([6], [6]), ([3, 7], [3, 7]), ([0, 0, 1, 2, 3, 4, 5, 6, 7, 8], [0]), ([9, 0, 1, 2, 3, 4, 5, 6, 7, 8], [9]), ([10, 8, 0, 1, 2, 3, 4, 5, 6, 7, 8], [8, 10])])
def TAB_58.B3 : List Nat := [0, 1, 3, 7, 0, 16, 48, 112, 255, 511, 1023, 2047]
theorem TAB_58.tab3 : rtab .any (opsOf Tryd.f58 3) = TAB_58.T3 := by kernel_rfl
theorem TAB_58.bits3 : waitsOk TAB_58.T3.2 TAB_58.B3 = true := by kernel_rfl
def globE (n : Int) : Int := if 0 ≤ n ∧ n ≤ 16 then 0 else 18
def funcsE (n : Int) : Int := if 1 ≤ n ∧ n ≤ 65535 then 0 else 20
theorem globals_any (g : Nat) (n at_ : Int) (w : World) (h4 : w.cell? ⟨g, 4, none⟩ = some (.int .i64 at_)) : Calls Tryd.prog 44 #[.pointer (some ⟨g, 0, none⟩), .int .i64 n] w fun e w' => AskPost w (globE n) at_ e w' := by
 have H4 := Az.mk h4
 clear h4
 by_cases h0 : 0 ≤ n
 ·by_cases h1 : n ≤ 16
  ·have HP : Az (globE n = 0) := ⟨if_pos ⟨h0, h1⟩⟩
   go_enter Tryd.func44, Tryd.ntmps44
   go_wp2_with (go_at_call 42; refine (must_true _ _ _).mono ?_; rintro e w' ⟨rfl, rfl⟩)
   go_end0
   exact askPost_ok HP.out (Below.refl _ _)
  ·have HP : Az (globE n = 18) := ⟨if_neg (fun h => h1 h.2)⟩
   have h1b : decide (n ≤ 16) = false := decide_eq_false h1
   clear h1
   go_enter Tryd.func44, Tryd.ntmps44
   go_wp2_with (go_at_call 42; refine (must_false _ _ _ _ H4.out).mono ?_; rintro e w' ⟨rfl, rfl⟩)
   exact ⟨rfl, askPost_no HP.out (by decide) (Below.refl _ _)⟩
 ·have HP : Az (globE n = 18) := ⟨if_neg (fun h => h0 h.1)⟩
  have h0b : decide (0 ≤ n) = false := decide_eq_false h0
  clear h0
  go_enter Tryd.func44, Tryd.ntmps44
  go_wp2_with (go_at_call 42; refine (must_false _ _ _ _ H4.out).mono ?_; rintro e w' ⟨rfl, rfl⟩)
  exact ⟨rfl, askPost_no HP.out (by decide) (Below.refl _ _)⟩
theorem funcs_any (g : Nat) (n at_ : Int) (w : World) (h4 : w.cell? ⟨g, 4, none⟩ = some (.int .i64 at_)) : Calls Tryd.prog 45 #[.pointer (some ⟨g, 0, none⟩), .int .i64 n] w fun e w' => AskPost w (funcsE n) at_ e w' := by
 have H4 := Az.mk h4
 clear h4
 by_cases h0 : 1 ≤ n
 ·by_cases h1 : n ≤ 65535
  ·have HP : Az (funcsE n = 0) := ⟨if_pos ⟨h0, h1⟩⟩
   go_enter Tryd.func45, Tryd.ntmps45
   go_wp2_with (go_at_call 42; refine (must_true _ _ _).mono ?_; rintro e w' ⟨rfl, rfl⟩)
   go_end0
   exact askPost_ok HP.out (Below.refl _ _)
  ·have HP : Az (funcsE n = 20) := ⟨if_neg (fun h => h1 h.2)⟩
   have h1b : decide (n ≤ 65535) = false := decide_eq_false h1
   clear h1
   go_enter Tryd.func45, Tryd.ntmps45
   go_wp2_with (go_at_call 42; refine (must_false _ _ _ _ H4.out).mono ?_; rintro e w' ⟨rfl, rfl⟩)
   exact ⟨rfl, askPost_no HP.out (by decide) (Below.refl _ _)⟩
 ·have HP : Az (funcsE n = 20) := ⟨if_neg (fun h => h0 h.1)⟩
  have h0b : decide (1 ≤ n) = false := decide_eq_false h0
  clear h0
  go_enter Tryd.func45, Tryd.ntmps45
  go_wp2_with (go_at_call 42; refine (must_false _ _ _ _ H4.out).mono ?_; rintro e w' ⟨rfl, rfl⟩)
  exact ⟨rfl, askPost_no HP.out (by decide) (Below.refl _ _)⟩
def headB (P R V n : Int) : Bool := decide (0 ≤ P) && (decide (P ≤ 8) && (decide (P ≤ V) && (decide (0 ≤ R) && (decide (R ≤ 4) && (decide (V ≤ 255) && decide (n ≤ 4096))))))
def headE (locs P R V n : Int) : Int := if headB P R V n = true then (if 1 ≤ n then (if locs + V < 1048576 then 0 else 21) else 19) else 20
def HeadPost (Wz w : World) (g : Nat) (ty : TypeId) (rest : List Value) (G : Int) (A : Option Addr) (m c B : Nat) (locs V at_ er : Int) (e : Ending) (w' : World) : Prop :=
 e = (if er = 0 then .returned (.tuple #[]) else .panicked [{ v := stopV er at_, recovered := false }]) ∧ (er = 0 → AskW w' g ty rest G A m c B (locs + V) at_) ∧ Below Wz.heap.size Wz w' ∧ KeepBut w w' g none
theorem headPost_no {Wz w w' : World} {g : Nat} {ty : TypeId} {rest : List Value} {G : Int} {A : Option Addr} {m c B : Nat} {locs V at_ er k : Int} (h : er = k) (hk : k ≠ 0) (hz : Below Wz.heap.size Wz w') (hp : KeepBut w w' g none) : HeadPost Wz w g ty rest G A m c B locs V at_ er (.panicked [{ v := stopV k at_, recovered := false }]) w' :=
 ⟨by rw [h, if_neg hk], fun h0 => absurd (h.symm.trans h0) hk, hz, hp⟩
set_option maxRecDepth 100000 in
set_option maxHeartbeats 8000000 in
theorem head_any (g : Nat) (qf : Addr) (ty : TypeId) (rest : List Value) (G : Int) (A : Option Addr) (m c B : Nat) (locs P R V n at_ : Int) (Wz w : World) (hz : Below Wz.heap.size Wz w) (hg : Wz.heap.size ≤ g) (hA : AskW w g ty rest G A m c B locs at_) (hl0 : 0 ≤ locs) (hl1 : locs < 1048576)
  (hP : w.cell? qf = some (.int .i64 P)) (hR : w.cell? ⟨qf.block, qf.off + 1, none⟩ = some (.int .i64 R)) (hV : w.cell? ⟨qf.block, qf.off + 2, none⟩ = some (.int .i64 V)) :
  Calls Tryd.prog 58 #[.pointer (some ⟨g, 0, none⟩), .pointer (some qf), .int .i64 n] w fun e w' => HeadPost Wz w g ty rest G A m c B locs V at_ (headE locs P R V n) e w' := by
 have H4 : Az (w.drew.cell? ⟨g, 4, none⟩ = some (.int .i64 at_)) := ⟨hA.c4⟩
 have HA := Az.mk hA
 have h3 := hA.c3
 have HZ := Az.mk hz
 have HG := Az.mk hg
 have HL := Az.mk (And.intro hl0 hl1)
 clear hA hz hg hl0 hl1
 by_cases c0 : 0 ≤ P
 ·skip
  obtain ⟨mv, hmv⟩ : ∃ mv, (if V < 8 then V else 8) = mv := ⟨_, rfl⟩
  go_enter Tryd.func58, Tryd.ntmps58
  go_wp2_with fail
  refine start_ (n := 18) (S := fun w' => w'.cell? qf = some (.int .i64 P) ∧ w'.cell? ⟨qf.block, qf.off + 2, none⟩ = some (.int .i64 V)) (ds := []) #[false, false, false, false, false, false, false, false, false, false, false, false, false, false, false, false, false, false] (by kernel_rfl) rfl rfl ⟨hP, hV⟩ (fun hHeld => ?_)
  refine with_tabW TAB_58.tab0 TAB_58.bits0 (fun HT_ HW_ => ?_)
  refine pq 0 (some 7) HT_ rfl rfl (fun _ _ _ h => h) ?_
  refine pq 1 (some 8) HT_ rfl rfl (fun _ _ _ h => h) ?_
  refine pq 2 (some 9) HT_ rfl rfl (fun _ _ _ h => h) ?_
  refine pt 3 (some 10) (v := ?_) (a' := ?_) rfl rfl (take_ofW HT_.out HW_.out (by kernel_rfl)) (fun _ _ _ h => h) (Or.inl ⟨by rfl, ?_⟩) hHeld ?_ ?_
  rotate_left; (rintro w' ⟨s0, s1⟩; go_simp; with_reducible rfl); rotate_left; (simp only [Act.put, pn, i64_w, i32_w]; rfl)
  refine pq 4 (some 11) HT_ rfl rfl (fun _ _ _ h => h) ?_
  refine pq 5 (some 12) HT_ rfl rfl (fun _ _ _ h => h) ?_
  refine pq 6 (some 13) HT_ rfl rfl (fun _ _ _ h => h) ?_
  refine pq 7 (some 14) HT_ rfl rfl (fun _ _ _ h => h) ?_
  refine pq 8 (some 15) HT_ rfl rfl (fun _ _ _ h => h) ?_
  refine pq 10 (some 17) HT_ rfl rfl (fun _ _ _ h => h) ?_
  refine pq 11 (some 18) HT_ rfl rfl (fun _ _ _ h => h) ?_
  refine pq 12 (some 19) HT_ rfl rfl (fun _ _ _ h => h) ?_
  refine pt 9 (some 16) (v := ?_) (a' := ?_) rfl rfl (take_ofW HT_.out HW_.out (by kernel_rfl)) (fun _ _ _ h => h) (Or.inl ⟨by rfl, ?_⟩) hHeld ?_ ?_
  rotate_left; (rintro w' ⟨s0, s1⟩; go_simp; with_reducible rfl); rotate_left; (simp only [Act.put, pn, i64_w, i32_w]; rfl)
  refine pt 13 (some 20) (v := ?_) (a' := ?_) rfl rfl (take_ofW HT_.out HW_.out (by kernel_rfl)) (fun _ _ _ h => h) (Or.inl ⟨by rfl, ?_⟩) hHeld ?_ ?_
  rotate_left; (rintro w' ⟨s0, s1⟩; go_simp; with_reducible rfl); rotate_left; (simp only [Act.put, pn, i64_w, i32_w]; rfl)
  refine pq 14 (some 21) HT_ rfl rfl (fun _ _ _ h => h) ?_
  refine pq 15 (some 22) HT_ rfl rfl (fun _ _ _ h => h) ?_
  refine pq 16 (some 23) HT_ rfl rfl (fun _ _ _ h => h) ?_
  refine pq 17 (some 6) HT_ rfl rfl (fun _ _ _ h => h) ?_
  refine done_ (done_of HT_.out (by kernel_rfl)) ?_
  clear hHeld HT_ HW_
  by_cases c1 : P ≤ 8
  ·skip
   by_cases c2 : P ≤ V
   ·skip
    by_cases c3 : 0 ≤ R
    ·skip
     by_cases c4 : R ≤ 4
     ·skip
      by_cases c5 : V ≤ 255
      ·skip
       by_cases c6 : n ≤ 4096
       ·skip
        by_cases c7 : 1 ≤ n
        ·skip
         have hmn : decide (P ≤ mv) = true := by rw [← hmv]; split <;> simp <;> omega
         have hwl : wrap64 (locs + V) = locs + V := wrap_in (by have := HL.out; omega) (by have := HL.out; omega)
         clear hmv
         go_wp2_with fail
         clear hmn
         refine (must_true _ _ _).mono ?_
         rintro e w' ⟨rfl, rfl⟩
         go_wp2_with fail
         refine (must_true _ _ _).mono ?_
         rintro e w' ⟨rfl, rfl⟩
         go_wp2_with fail
         refine start_ (n := 12) (S := fun w' => w'.cell? ⟨g, 3, none⟩ = some (.int .i64 locs) ∧ w'.cell? ⟨qf.block, qf.off + 2, none⟩ = some (.int .i64 V)) (ds := [11]) #[false, false, false, false, false, false, false, false, false, false, false, false] (by kernel_rfl) rfl rfl ⟨h3, hV⟩ (fun hHeld => ?_)
         refine with_tabW TAB_58.tab3 TAB_58.bits3 (fun HT_ HW_ => ?_)
         refine pq 0 (some 56) HT_ rfl rfl (fun _ _ _ h => h) ?_
         refine pq 1 (some 57) HT_ rfl rfl (fun _ _ _ h => h) ?_
         refine pq 2 (some 58) HT_ rfl rfl (fun _ _ _ h => h) ?_
         refine pq 4 (some 60) HT_ rfl rfl (fun _ _ _ h => h) ?_
         refine pq 5 (some 61) HT_ rfl rfl (fun _ _ _ h => h) ?_
         refine pq 6 (some 62) HT_ rfl rfl (fun _ _ _ h => h) ?_
         refine pt 3 (some 59) (v := ?_) (a' := ?_) rfl rfl (take_ofW HT_.out HW_.out (by kernel_rfl)) (fun _ _ _ h => h) (Or.inl ⟨by rfl, ?_⟩) hHeld ?_ ?_
         rotate_left; (rintro w' ⟨s0, s1⟩; go_simp; with_reducible rfl); rotate_left; (simp only [Act.put, pn, i64_w, i32_w]; rfl)
         refine pt 7 (some 63) (v := ?_) (a' := ?_) rfl rfl (take_ofW HT_.out HW_.out (by kernel_rfl)) (fun _ _ _ h => h) (Or.inl ⟨by rfl, ?_⟩) hHeld ?_ ?_
         rotate_left; (rintro w' ⟨s0, s1⟩; go_simp; with_reducible rfl); rotate_left; (simp only [Act.put, pn, i64_w, i32_w]; rfl)
         refine pq 8 (some 64) HT_ rfl rfl (fun _ _ _ h => h) ?_
         refine pq 9 (some 65) HT_ rfl rfl (fun _ _ _ h => h) ?_
         refine pq 10 (some 66) HT_ rfl rfl (fun _ _ _ h => h) ?_
         refine last_ (i := 11) (N := none) #[true, true, true, true, true, true, true, true, true, true, true, true] rfl rfl (one_of HT_.out (by kernel_rfl)) (by decide) (fun K hK => ?_)
         have hcz : w.drew.drew.cell? ⟨g, 3, none⟩ = some (.int .i64 locs) := h3
         have hfz : w.drew.drew.frozen? ⟨g, 3, none⟩ = false := fZ HA.out 3
         refine skip_ (w1 := ?_) (by rfl) rfl ?_ ?_
         rotate_left
         ·go_simp
          rfl
         clear hcz hfz
         refine hK.out _ _ ?_
         clear hK K
         refine done_ (done_of HT_.out (by kernel_rfl)) ?_
         clear HT_ HW_
         have HA2 : Az (AskW ((w.setCell ⟨g, 3, none⟩ (.int .i64 (locs + V))).drew.drew) g ty rest G A m c B (locs + V) at_) := ⟨AskW.set3 HA.out _⟩
         have HZ2 : Az (Below Wz.heap.size Wz ((w.setCell ⟨g, 3, none⟩ (.int .i64 (locs + V))).drew.drew)) := ⟨below_drew (below_drew (sZ HZ.out HG.out))⟩
         have HK2 : Az (KeepBut w ((w.setCell ⟨g, 3, none⟩ (.int .i64 (locs + V))).drew.drew) g none) := ⟨(KeepBut.refl w g none).set_ 3 _⟩
         have h3b := HA2.out.c3
         have H4b := Az.mk HA2.out.c4
         obtain ⟨w2, hw2⟩ : ∃ w2, w2 = (w.setCell ⟨g, 3, none⟩ (.int .i64 (locs + V))).drew.drew := ⟨_, rfl⟩
         rw [← hw2] at HA2 HZ2 HK2 h3b H4b ⊢
         clear hw2
         by_cases c8 : locs + V < 1048576
         ·skip
          have HE : Az (headE locs P R V n = 0) := ⟨by unfold headE headB; rw [if_pos (by simp only [Bool.and_eq_true, decide_eq_true_eq]; omega), if_pos c7, if_pos c8]⟩
          go_wp2_with fail
          refine (must_true _ _ _).mono ?_
          rintro e w' ⟨rfl, rfl⟩
          go_wp2_with fail
          go_end0
          exact ⟨by rw [HE.out]; rfl, fun _ => HA2.out, HZ2.out, HK2.out⟩
         ·skip
          have HE : Az (headE locs P R V n = 21) := ⟨by unfold headE headB; rw [if_pos (by simp only [Bool.and_eq_true, decide_eq_true_eq]; omega), if_pos c7, if_neg c8]⟩
          have cb : decide (locs + V < 1048576) = false := decide_eq_false c8
          clear c8
          go_wp2_with fail
          refine (must_false _ _ _ _ H4b.out).mono ?_
          rintro e w' ⟨rfl, rfl⟩
          go_wp2_with fail
          exact ⟨rfl, headPost_no HE.out (by decide) HZ2.out HK2.out⟩
        ·have HE : Az (headE locs P R V n = 19) := ⟨by unfold headE headB; rw [if_pos (by simp only [Bool.and_eq_true, decide_eq_true_eq]; omega), if_neg c7]⟩
         have hmn : decide (P ≤ mv) = true := by rw [← hmv]; split <;> simp <;> omega
         have cb : decide (1 ≤ n) = false := decide_eq_false c7
         clear c7
         clear hmv
         go_wp2_with fail
         refine (must_true _ _ _).mono ?_
         rintro e w' ⟨rfl, rfl⟩
         go_wp2_with fail
         refine (must_false _ _ _ _ H4.out).mono ?_
         rintro e w' ⟨rfl, rfl⟩
         go_wp2_with fail
         exact ⟨rfl, headPost_no HE.out (by decide) (below_drew HZ.out) (KeepBut.of_below (below_drew (Below.refl _ _)) _ _)⟩
       ·have HE : Az (headE locs P R V n = 20) := ⟨by unfold headE headB; rw [if_neg (by simp only [Bool.and_eq_true, decide_eq_true_eq]; omega)]⟩
        have hmn : decide (P ≤ mv) = true := by rw [← hmv]; split <;> simp <;> omega
        have cb : decide (n ≤ 4096) = false := decide_eq_false c6
        clear c6
        clear hmv
        go_wp2_with fail
        refine (must_false _ _ _ _ H4.out).mono ?_
        rintro e w' ⟨rfl, rfl⟩
        go_wp2_with fail
        exact ⟨rfl, headPost_no HE.out (by decide) (below_drew HZ.out) (KeepBut.of_below (below_drew (Below.refl _ _)) _ _)⟩
      ·have HE : Az (headE locs P R V n = 20) := ⟨by unfold headE headB; rw [if_neg (by simp only [Bool.and_eq_true, decide_eq_true_eq]; omega)]⟩
       have hmn : decide (P ≤ mv) = true := by rw [← hmv]; split <;> simp <;> omega
       have cb : decide (V ≤ 255) = false := decide_eq_false c5
       clear c5
       clear hmv
       go_wp2_with fail
       refine (must_false _ _ _ _ H4.out).mono ?_
       rintro e w' ⟨rfl, rfl⟩
       go_wp2_with fail
       exact ⟨rfl, headPost_no HE.out (by decide) (below_drew HZ.out) (KeepBut.of_below (below_drew (Below.refl _ _)) _ _)⟩
     ·have HE : Az (headE locs P R V n = 20) := ⟨by unfold headE headB; rw [if_neg (by simp only [Bool.and_eq_true, decide_eq_true_eq]; omega)]⟩
      have hmn : decide (P ≤ mv) = true := by rw [← hmv]; split <;> simp <;> omega
      have cb : decide (R ≤ 4) = false := decide_eq_false c4
      clear c4
      clear hmv
      go_wp2_with fail
      refine (must_false _ _ _ _ H4.out).mono ?_
      rintro e w' ⟨rfl, rfl⟩
      go_wp2_with fail
      exact ⟨rfl, headPost_no HE.out (by decide) (below_drew HZ.out) (KeepBut.of_below (below_drew (Below.refl _ _)) _ _)⟩
    ·have HE : Az (headE locs P R V n = 20) := ⟨by unfold headE headB; rw [if_neg (by simp only [Bool.and_eq_true, decide_eq_true_eq]; omega)]⟩
     have hmn : decide (P ≤ mv) = true := by rw [← hmv]; split <;> simp <;> omega
     have cb : decide (0 ≤ R) = false := decide_eq_false c3
     clear c3
     clear hmv
     go_wp2_with fail
     refine (must_false _ _ _ _ H4.out).mono ?_
     rintro e w' ⟨rfl, rfl⟩
     go_wp2_with fail
     exact ⟨rfl, headPost_no HE.out (by decide) (below_drew HZ.out) (KeepBut.of_below (below_drew (Below.refl _ _)) _ _)⟩
   ·have HE : Az (headE locs P R V n = 20) := ⟨by unfold headE headB; rw [if_neg (by simp only [Bool.and_eq_true, decide_eq_true_eq]; omega)]⟩
    have hmn : decide (P ≤ mv) = false := by rw [← hmv]; split <;> simp <;> omega
    clear c2
    clear c1
    clear hmv
    go_wp2_with fail
    refine (must_false _ _ _ _ H4.out).mono ?_
    rintro e w' ⟨rfl, rfl⟩
    go_wp2_with fail
    exact ⟨rfl, headPost_no HE.out (by decide) (below_drew HZ.out) (KeepBut.of_below (below_drew (Below.refl _ _)) _ _)⟩
  ·have HE : Az (headE locs P R V n = 20) := ⟨by unfold headE headB; rw [if_neg (by simp only [Bool.and_eq_true, decide_eq_true_eq]; omega)]⟩
   have hmn : decide (P ≤ mv) = false := by rw [← hmv]; split <;> simp <;> omega
   clear c1
   clear hmv
   go_wp2_with fail
   refine (must_false _ _ _ _ H4.out).mono ?_
   rintro e w' ⟨rfl, rfl⟩
   go_wp2_with fail
   exact ⟨rfl, headPost_no HE.out (by decide) (below_drew HZ.out) (KeepBut.of_below (below_drew (Below.refl _ _)) _ _)⟩
 ·have HE : Az (headE locs P R V n = 20) := ⟨by unfold headE headB; rw [if_neg (by simp only [Bool.and_eq_true, decide_eq_true_eq]; omega)]⟩
  obtain ⟨mv, hmv⟩ : ∃ mv, (if V < 8 then V else 8) = mv := ⟨_, rfl⟩
  have cb : decide (0 ≤ P) = false := decide_eq_false c0
  clear c0
  go_enter Tryd.func58, Tryd.ntmps58
  go_wp2_with fail
  refine start_ (n := 18) (S := fun w' => w'.cell? qf = some (.int .i64 P) ∧ w'.cell? ⟨qf.block, qf.off + 2, none⟩ = some (.int .i64 V)) (ds := []) #[false, false, false, false, false, false, false, false, false, false, false, false, false, false, false, false, false, false] (by kernel_rfl) rfl rfl ⟨hP, hV⟩ (fun hHeld => ?_)
  refine with_tabW TAB_58.tab0 TAB_58.bits0 (fun HT_ HW_ => ?_)
  refine pq 0 (some 7) HT_ rfl rfl (fun _ _ _ h => h) ?_
  refine pq 1 (some 8) HT_ rfl rfl (fun _ _ _ h => h) ?_
  refine pq 2 (some 9) HT_ rfl rfl (fun _ _ _ h => h) ?_
  refine pt 3 (some 10) (v := ?_) (a' := ?_) rfl rfl (take_ofW HT_.out HW_.out (by kernel_rfl)) (fun _ _ _ h => h) (Or.inl ⟨by rfl, ?_⟩) hHeld ?_ ?_
  rotate_left; (rintro w' ⟨s0, s1⟩; go_simp; with_reducible rfl); rotate_left; (simp only [Act.put, pn, i64_w, i32_w]; rfl)
  refine pq 4 (some 11) HT_ rfl rfl (fun _ _ _ h => h) ?_
  refine pq 5 (some 12) HT_ rfl rfl (fun _ _ _ h => h) ?_
  refine pure_ (i := 6) (N := some 13) (v := undef) (a' := ?_) #[true, true, true, true, true, true, true, false, false, false, false, false, false, false, false, false, false, false] rfl rfl (any_of HT_.out (by kernel_rfl)) (fun _ _ _ h => h) (Or.inr ⟨by rfl, rfl⟩) ?_ ?_
  rotate_left
  ·simp only [Act.put, pn, i64_w, i32_w]
   rfl
  refine pure_ (i := 7) (N := some 14) (v := undef) (a' := ?_) #[true, true, true, true, true, true, true, true, false, false, false, false, false, false, false, false, false, false] rfl rfl (any_of HT_.out (by kernel_rfl)) (fun _ _ _ h => h) (Or.inr ⟨by rfl, rfl⟩) ?_ ?_
  rotate_left
  ·simp only [Act.put, pn, i64_w, i32_w]
   rfl
  refine pure_ (i := 8) (N := some 15) (v := undef) (a' := ?_) #[true, true, true, true, true, true, true, true, true, false, false, false, false, false, false, false, false, false] rfl rfl (any_of HT_.out (by kernel_rfl)) (fun _ _ _ h => h) (Or.inr ⟨by rfl, rfl⟩) ?_ ?_
  rotate_left
  ·simp only [Act.put, pn, i64_w, i32_w]
   rfl
  refine pure_ (i := 9) (N := some 16) (v := undef) (a' := ?_) #[true, true, true, true, true, true, true, true, true, true, false, false, false, false, false, false, false, false] rfl rfl (any_of HT_.out (by kernel_rfl)) (fun _ _ _ h => h) (Or.inr ⟨by rfl, rfl⟩) ?_ ?_
  rotate_left
  ·simp only [Act.put, pn, i64_w, i32_w]
   rfl
  refine pure_ (i := 10) (N := some 17) (v := undef) (a' := ?_) #[true, true, true, true, true, true, true, true, true, true, true, false, false, false, false, false, false, false] rfl rfl (any_of HT_.out (by kernel_rfl)) (fun _ _ _ h => h) (Or.inr ⟨by rfl, rfl⟩) ?_ ?_
  rotate_left
  ·simp only [Act.put, pn, i64_w, i32_w]
   rfl
  refine pure_ (i := 11) (N := some 18) (v := undef) (a' := ?_) #[true, true, true, true, true, true, true, true, true, true, true, true, false, false, false, false, false, false] rfl rfl (any_of HT_.out (by kernel_rfl)) (fun _ _ _ h => h) (Or.inr ⟨by rfl, rfl⟩) ?_ ?_
  rotate_left
  ·simp only [Act.put, pn, i64_w, i32_w]
   rfl
  refine pure_ (i := 12) (N := some 19) (v := undef) (a' := ?_) #[true, true, true, true, true, true, true, true, true, true, true, true, true, false, false, false, false, false] rfl rfl (any_of HT_.out (by kernel_rfl)) (fun _ _ _ h => h) (Or.inr ⟨by rfl, rfl⟩) ?_ ?_
  rotate_left
  ·simp only [Act.put, pn, i64_w, i32_w]
   rfl
  refine pure_ (i := 13) (N := some 20) (v := undef) (a' := ?_) #[true, true, true, true, true, true, true, true, true, true, true, true, true, true, false, false, false, false] rfl rfl (any_of HT_.out (by kernel_rfl)) (fun _ _ _ h => h) (Or.inr ⟨by rfl, rfl⟩) ?_ ?_
  rotate_left
  ·simp only [Act.put, pn, i64_w, i32_w]
   rfl
  refine pure_ (i := 14) (N := some 21) (v := undef) (a' := ?_) #[true, true, true, true, true, true, true, true, true, true, true, true, true, true, true, false, false, false] rfl rfl (any_of HT_.out (by kernel_rfl)) (fun _ _ _ h => h) (Or.inr ⟨by rfl, rfl⟩) ?_ ?_
  rotate_left
  ·simp only [Act.put, pn, i64_w, i32_w]
   rfl
  refine pure_ (i := 15) (N := some 22) (v := undef) (a' := ?_) #[true, true, true, true, true, true, true, true, true, true, true, true, true, true, true, true, false, false] rfl rfl (any_of HT_.out (by kernel_rfl)) (fun _ _ _ h => h) (Or.inr ⟨by rfl, rfl⟩) ?_ ?_
  rotate_left
  ·simp only [Act.put, pn, i64_w, i32_w]
   rfl
  refine pq 16 (some 23) HT_ rfl rfl (fun _ _ _ h => h) ?_
  refine pq 17 (some 6) HT_ rfl rfl (fun _ _ _ h => h) ?_
  refine done_ (done_of HT_.out (by kernel_rfl)) ?_
  clear hHeld HT_ HW_
  clear hmv
  go_wp2_with fail
  refine (must_false _ _ _ _ H4.out).mono ?_
  rintro e w' ⟨rfl, rfl⟩
  go_wp2_with fail
  exact ⟨rfl, headPost_no HE.out (by decide) (below_drew HZ.out) (KeepBut.of_below (below_drew (Below.refl _ _)) _ _)⟩
end Go.Proofs.YteonppgdmhakoaaDoor.PC
namespace Go.Proofs.YteonppgdmhakoaaDoor.PC
open Go.RowKit Go.Proofs.YteonppgdmhakoaaDoorW.PrintWords Go.Proofs.YteonppgdmhakoaaDoorW.PrintLast Go.Proofs.YteonppgdmhakoaaDoorW.PrintMore
set_option linter.unusedVariables false
set_option linter.unusedSimpArgs false
def TAB_59.T0 : Bool × List (List Nat × List Nat) := (true, [([], []), ([], []), ([1], [1]), ([2], [2]), ([3], [3]), ([4], [4]), ([5], [5]), ([6], [6]), ([7, 6], [6, 7]), ([8, 6], [6, 8]), ([9, 6], [6, 9]), ([6], [6]), ([11, 6], [6, 11]), ([12, 6], [6, 12]), ([13, 6], [6, 13]), ([14, 6], [6, 14]), ([10, 15, 6], [6, 10, 15]), ([6, 16], [6, 16]), ([0, 17, 6], [0, 17])])
def TAB_59.B0 : List Nat := [0, 0, 2, 6, 14, 30, 62, 126, 254, 510, 1022, 126, 2174, 6270, 14462, 30846, 65534, 131070, 262143]
theorem TAB_59.tab0 : rtab .any (opsOf Tryd.f59 0) = TAB_59.T0 := by kernel_rfl
theorem TAB_59.bits0 : waitsOk TAB_59.T0.2 TAB_59.B0 = true := by kernel_rfl
def TAB_59.T1 : Bool × List (List Nat × List Nat) := (true, [([], []), ([], []), ([1], [1]), ([2], [2]), ([3], [3]), ([], []), ([5], [5]), ([6], [6]), ([7], [7]), ([4, 8], [4, 8]), ([9], [9]), ([], []), ([10, 11], [10, 11]), ([0, 12, 12], [0, 12])])
def TAB_59.B1 : List Nat := [0, 0, 2, 6, 14, 0, 32, 96, 224, 510, 1022, 0, 4094, 8191]
theorem TAB_59.tab1 : rtab .any (opsOf Tryd.f59 1) = TAB_59.T1 := by kernel_rfl
theorem TAB_59.bits1 : waitsOk TAB_59.T1.2 TAB_59.B1 = true := by kernel_rfl
def usesB (x : S50) : List Bool := [(x.f1 != 0), (x.f2 != 0), (x.f3 != 0), (x.f4 != 0), decide (0 < x.f5.length), decide (0 < x.f6.length)]
def opE (locs : Int) (x : S50) (last : Bool) : Int :=
 if 1 ≤ x.f0 ∧ x.f0 < 18 then (if plainB (partsOf x.f0.toNat) (usesB x) = true then (if last = false ∨ x.f0 = 13 ∨ x.f0 = 15 then (if x.f0 = 6 then (if locs + 1 < 1048576 then 0 else 21) else 0) else 19) else 1) else 12
def newL (x : S50) : Int := if x.f0 = 6 then 1 else 0
def InsW (w : World) (q : Addr) (x : S50) (A5 : Option Addr) (c5 : Nat) (A6 : Option Addr) (c6 : Nat) : Prop :=
 w.cell? q = some (.int .i64 x.f0) ∧ w.cell? ⟨q.block, q.off + 1, none⟩ = some (.int .i64 x.f1) ∧ w.cell? ⟨q.block, q.off + 2, none⟩ = some (.int .i64 x.f2) ∧ w.cell? ⟨q.block, q.off + 3, none⟩ = some (.int .i64 x.f3) ∧ w.cell? ⟨q.block, q.off + 4, none⟩ = some (.int .i64 x.f4) ∧
  w.cell? ⟨q.block, q.off + 5, none⟩ = some (.slice A5 x.f5.length c5) ∧ w.cell? ⟨q.block, q.off + 6, none⟩ = some (.slice A6 x.f6.length c6)
theorem InsW.below {w w' : World} {q : Addr} {x : S50} {A5 A6 : Option Addr} {c5 c6 : Nat} (h : InsW w q x A5 c5 A6 c6) (hb : Below w.heap.size w w') : InsW w' q x A5 c5 A6 c6 :=
 ⟨cZ hb h.1, cZ hb h.2.1, cZ hb h.2.2.1, cZ hb h.2.2.2.1, cZ hb h.2.2.2.2.1, cZ hb h.2.2.2.2.2.1, cZ hb h.2.2.2.2.2.2⟩
theorem plain_ins {w : World} {q : Addr} {x : S50} {A5 A6 : Option Addr} {c5 c6 : Nat} {b : Nat} {ks : List PK} (hr : RowIs w b ks) (hk : ks.length ≤ 3) (h : InsW w q x A5 c5 A6 c6) :
  Calls Tryd.prog 92 #[.slice (some ⟨b, 0, none⟩) ks.length ks.length, .pointer (some q)] w fun e w' => e = .returned (.bool (plainB ks (usesB x))) ∧ Below w.heap.size w w' :=
 plain_any ks b q x A5 A6 _ c5 _ c6 w hr hk h.2.1 h.2.2.1 h.2.2.2.1 h.2.2.2.2.1 h.2.2.2.2.2.1 h.2.2.2.2.2.2
theorem parts_le (op : Nat) : (partsOf op).length ≤ 3 := by
 unfold partsOf
 rcases op with _ | _ | _ | _ | _ | _ | _ | _ | _ | _ | _ | _ | _ | _ | _ | _ | _ | _ | op <;> simp
set_option maxRecDepth 100000 in
set_option maxHeartbeats 16000000 in
theorem op_any (g : Nat) (qx : Addr) (ty : TypeId) (rest : List Value) (G : Int) (A : Option Addr) (m c B : Nat) (locs at_ : Int) (x : S50) (A5 : Option Addr) (c5 : Nat) (A6 : Option Addr) (c6 : Nat) (last : Bool) (Wz w : World) (hz : Below Wz.heap.size Wz w) (hg : Wz.heap.size ≤ g) (hA : AskW w g ty rest G A m c B locs at_) (hl0 : 0 ≤ locs) (hl1 : locs < 1048576) (hO : OpsAt w B) (hx : InsW w qx x A5 c5 A6 c6) :
  Calls Tryd.prog 59 #[.pointer (some ⟨g, 0, none⟩), .pointer (some qx), .bool last] w fun e w' => HeadPost Wz w g ty rest G A m c B locs (newL x) at_ (opE locs x last) e w' := by
 have H4 : Az (w.drew.cell? ⟨g, 4, none⟩ = some (.int .i64 at_)) := ⟨hA.c4⟩
 have h2 := hA.c2
 have hx0 := hx.1
 have HA := Az.mk hA
 have HZ := Az.mk hz
 have HG := Az.mk hg
 have HL := Az.mk (And.intro hl0 hl1)
 have HO := Az.mk hO
 have HX := Az.mk hx
 clear hA hz hg hl0 hl1 hO hx
 by_cases c0 : 1 ≤ x.f0
 ·by_cases c1 : x.f0 < 18
  ·have HC := Az.mk (And.intro c0 c1)
   obtain ⟨op, hop⟩ : ∃ op : Nat, x.f0 = (op : Int) := ⟨x.f0.toNat, by omega⟩
   obtain ⟨b, hrow, hR⟩ := HO.out op (by omega) (by omega)
   have HF := Az.mk hop
   obtain ⟨pb, hpb⟩ : ∃ pb, pb = plainB (partsOf op) (usesB x) := ⟨_, rfl⟩
   have Hpn : Az (plainB (partsOf x.f0.toNat) (usesB x) = pb) := ⟨by rw [hop, Int.toNat_natCast, hpb]⟩
   have HPl : Az (Calls Tryd.prog 92 #[.slice (some ⟨b, 0, none⟩) (partsOf op).length (partsOf op).length, .pointer (some qx)] w.drew.drew fun e w' => e = .returned (.bool pb) ∧ Below w.drew.drew.heap.size w.drew.drew w') := ⟨by rw [hpb]; exact plain_ins (hR.below (below_drew (below_drew (Below.refl _ _)))) (parts_le op) (HX.out.below (below_drew (below_drew (Below.refl _ _))))⟩
   rw [hop] at hx0 c0 c1
   obtain ⟨n, hn⟩ : ∃ n, n = (partsOf op).length := ⟨_, rfl⟩
   rw [← hn] at hrow HPl
   clear hn hR hpb hop HO
   cases pb with
   | false =>
    have HE : Az (opE locs x last = 1) := ⟨by unfold opE; rw [if_pos HC.out, if_neg (by rw [Hpn.out]; decide)]⟩
    go_enter Tryd.func59, Tryd.ntmps59
    go_wp2_with fail
    refine start_ (n := 19) (S := fun w' => w'.cell? qx = some (.int .i64 (op : Int)) ∧ w'.cell? ⟨g, 2, none⟩ = some (.slice (some ⟨B, 0, none⟩) 18 18)) (ds := []) #[false, false, false, false, false, false, false, false, false, false, false, false, false, false, false, false, false, false, false] (by kernel_rfl) rfl rfl ⟨hx0, h2⟩ (fun hHeld => ?_)
    refine with_tabW TAB_59.tab0 TAB_59.bits0 (fun HT_ HW_ => ?_)
    refine pq 0 (some 6) HT_ rfl rfl (fun _ _ _ h => h) ?_
    refine pq 1 (some 7) HT_ rfl rfl (fun _ _ _ h => h) ?_
    refine pq 2 (some 8) HT_ rfl rfl (fun _ _ _ h => h) ?_
    refine pq 3 (some 9) HT_ rfl rfl (fun _ _ _ h => h) ?_
    refine pt 4 (some 10) (v := ?_) (a' := ?_) rfl rfl (take_ofW HT_.out HW_.out (by kernel_rfl)) (fun _ _ _ h => h) (Or.inl ⟨by rfl, ?_⟩) hHeld ?_ ?_
    rotate_left; (rintro w' ⟨s0, s1⟩; go_simp; with_reducible rfl); rotate_left; (simp only [Act.put, pn, i64_w, i32_w]; rfl)
    refine pq 5 (some 11) HT_ rfl rfl (fun _ _ _ h => h) ?_
    refine pq 6 (some 12) HT_ rfl rfl (fun _ _ _ h => h) ?_
    refine pq 7 (some 13) HT_ rfl rfl (fun _ _ _ h => h) ?_
    refine pq 8 (some 14) HT_ rfl rfl (fun _ _ _ h => h) ?_
    refine pq 9 (some 15) HT_ rfl rfl (fun _ _ _ h => h) ?_
    refine pq 11 (some 17) HT_ rfl rfl (fun _ _ _ h => h) ?_
    refine pq 12 (some 18) HT_ rfl rfl (fun _ _ _ h => h) ?_
    refine pq 13 (some 19) HT_ rfl rfl (fun _ _ _ h => h) ?_
    refine pt 10 (some 16) (v := ?_) (a' := ?_) rfl rfl (take_ofW HT_.out HW_.out (by kernel_rfl)) (fun _ _ _ h => h) (Or.inl ⟨by rfl, ?_⟩) hHeld ?_ ?_
    rotate_left; (rintro w' ⟨s0, s1⟩; go_simp; with_reducible rfl); rotate_left; (simp only [Act.put, pn, i64_w, i32_w]; rfl)
    refine pt 14 (some 20) (v := ?_) (a' := ?_) rfl rfl (take_ofW HT_.out HW_.out (by kernel_rfl)) (fun _ _ _ h => h) (Or.inl ⟨by rfl, ?_⟩) hHeld ?_ ?_
    rotate_left; (rintro w' ⟨s0, s1⟩; go_simp; with_reducible rfl); rotate_left; (simp only [Act.put, pn, i64_w, i32_w]; rfl)
    refine pq 15 (some 21) HT_ rfl rfl (fun _ _ _ h => h) ?_
    refine pq 16 (some 22) HT_ rfl rfl (fun _ _ _ h => h) ?_
    refine pq 17 (some 23) HT_ rfl rfl (fun _ _ _ h => h) ?_
    refine one_ (i := 18) (N := some 24) #[true, true, true, true, true, true, true, true, true, true, true, true, true, true, true, true, true, true, true] rfl rfl (one_of HT_.out (by kernel_rfl)) (by decide) (fun K hK => ?_)
    refine goes_ Tryd.func42 (by kernel_rfl) rfl #[.pointer (some ⟨g, 0, none⟩), .bool true, .int .i64 12] (by rfl) rfl rfl (by simp only [List.map_toArray, List.map_cons, List.map_nil]; rfl) ?_
    with_reducible refine (must_true _ _ _).mono ?_
    rintro e_ wm ⟨rfl, rfl⟩
    refine ⟨_, rfl, ?_⟩
    refine hK.out _ _ ⟨hx0, h2⟩ (fun hHeld => ?_)
    clear hK K
    refine norm_ (a' := ?_) ?_ ?_
    rotate_left
    ·show Act.put _ (some 24) _ = _
     simp only [Act.put, pn, i64_w, i32_w]
     rfl
    refine done_ (done_of HT_.out (by kernel_rfl)) ?_
    clear hHeld HT_ HW_
    go_wp2_with fail
    refine start_ (n := 14) (S := fun w' => w'.cell? qx = some (.int .i64 (op : Int)) ∧ w'.cell? ⟨g, 2, none⟩ = some (.slice (some ⟨B, 0, none⟩) 18 18) ∧ w'.cell? ⟨B, op, none⟩ = some (.slice (some ⟨b, 0, none⟩) n n)) (ds := []) #[false, false, false, false, false, false, false, false, false, false, false, false, false, false] (by kernel_rfl) rfl rfl ⟨hx0, h2, hrow⟩ (fun hHeld => ?_)
    refine with_tabW TAB_59.tab1 TAB_59.bits1 (fun HT_ HW_ => ?_)
    refine pq 0 (some 25) HT_ rfl rfl (fun _ _ _ h => h) ?_
    refine pq 1 (some 26) HT_ rfl rfl (fun _ _ _ h => h) ?_
    refine pq 2 (some 27) HT_ rfl rfl (fun _ _ _ h => h) ?_
    refine pq 3 (some 28) HT_ rfl rfl (fun _ _ _ h => h) ?_
    refine pq 5 (some 30) HT_ rfl rfl (fun _ _ _ h => h) ?_
    refine pq 6 (some 31) HT_ rfl rfl (fun _ _ _ h => h) ?_
    refine pq 7 (some 32) HT_ rfl rfl (fun _ _ _ h => h) ?_
    refine pq 11 (some 36) HT_ rfl rfl (fun _ _ _ h => h) ?_
    refine pt 4 (some 29) (v := ?_) (a' := ?_) rfl rfl (take_ofW HT_.out HW_.out (by kernel_rfl)) (fun _ _ _ h => h) (Or.inl ⟨by rfl, ?_⟩) hHeld ?_ ?_
    rotate_left; (rintro w' ⟨s0, s1, s2⟩; go_simp; with_reducible rfl); rotate_left; (simp only [Act.put, pn, i64_w, i32_w]; rfl)
    refine pt 8 (some 33) (v := ?_) (a' := ?_) rfl rfl (take_ofW HT_.out HW_.out (by kernel_rfl)) (fun _ _ _ h => h) (Or.inl ⟨by rfl, ?_⟩) hHeld ?_ ?_
    rotate_left; (rintro w' ⟨s0, s1, s2⟩; go_simp; with_reducible rfl); rotate_left; (simp only [Act.put, pn, i64_w, i32_w]; rfl)
    refine pq 9 (some 34) HT_ rfl rfl (fun _ _ _ h => h) ?_
    refine pt 10 (some 35) (v := ?_) (a' := ?_) rfl rfl (take_ofW HT_.out HW_.out (by kernel_rfl)) (fun _ _ _ h => h) (Or.inl ⟨by rfl, ?_⟩) hHeld ?_ ?_
    rotate_left; (rintro w' ⟨s0, s1, s2⟩; go_simp; with_reducible rfl); rotate_left; (simp only [Act.put, pn, i64_w, i32_w]; rfl)
    refine one_ (i := 12) (N := some 37) #[true, true, true, true, true, true, true, true, true, true, true, true, true, false] rfl rfl (one_of HT_.out (by kernel_rfl)) (by decide) (fun K hK => ?_)
    refine goes_ Tryd.func92 (by kernel_rfl) rfl #[.slice (some ⟨b, 0, none⟩) n n, .pointer (some qx)] (by rfl) rfl rfl (by simp only [List.map_toArray, List.map_cons, List.map_nil]; rfl) ?_
    with_reducible refine (HPl.out).mono ?_
    rintro e_ wc ⟨rfl, hb⟩
    refine ⟨_, rfl, ?_⟩
    have HB := Az.mk hb
    have H4c : Az (wc.cell? ⟨g, 4, none⟩ = some (.int .i64 at_)) := ⟨cZ hb H4.out⟩
    clear hb
    refine hK.out _ _ ⟨cZ HB.out hx0, cZ HB.out h2, cZ HB.out hrow⟩ (fun hHeld => ?_)
    clear hK K
    refine norm_ (a' := ?_) ?_ ?_
    rotate_left
    ·show Act.put _ (some 37) _ = _
     simp only [Act.put, pn, i64_w, i32_w]
     rfl
    refine one_ (i := 13) (N := some 38) #[true, true, true, true, true, true, true, true, true, true, true, true, true, true] rfl rfl (one_of HT_.out (by kernel_rfl)) (by decide) (fun K hK => ?_)
    refine goesP_ Tryd.func42 (by kernel_rfl) rfl #[.pointer (some ⟨g, 0, none⟩), .bool false, .int .i64 1] (by rfl) rfl rfl (by simp only [List.map_toArray, List.map_cons, List.map_nil]; rfl) ?_
    with_reducible refine (must_false _ _ _ _ H4c.out).mono ?_
    rintro e_ wm ⟨rfl, rfl⟩
    refine ⟨_, rfl, ?_⟩
    have HBw : Az (Below w.heap.size w wc) := ⟨(below_drew (below_drew (Below.refl w.heap.size w))).trans HB.out⟩
    exact ⟨rfl, headPost_no HE.out (by decide) (HZ.out.trans (HBw.out.mono HZ.out.size)) (KeepBut.of_below HBw.out _ _)⟩
   | true =>
    go_enter Tryd.func59, Tryd.ntmps59
    go_wp2_with fail
    refine start_ (n := 19) (S := fun w' => w'.cell? qx = some (.int .i64 (op : Int)) ∧ w'.cell? ⟨g, 2, none⟩ = some (.slice (some ⟨B, 0, none⟩) 18 18)) (ds := []) #[false, false, false, false, false, false, false, false, false, false, false, false, false, false, false, false, false, false, false] (by kernel_rfl) rfl rfl ⟨hx0, h2⟩ (fun hHeld => ?_)
    refine with_tabW TAB_59.tab0 TAB_59.bits0 (fun HT_ HW_ => ?_)
    refine pq 0 (some 6) HT_ rfl rfl (fun _ _ _ h => h) ?_
    refine pq 1 (some 7) HT_ rfl rfl (fun _ _ _ h => h) ?_
    refine pq 2 (some 8) HT_ rfl rfl (fun _ _ _ h => h) ?_
    refine pq 3 (some 9) HT_ rfl rfl (fun _ _ _ h => h) ?_
    refine pt 4 (some 10) (v := ?_) (a' := ?_) rfl rfl (take_ofW HT_.out HW_.out (by kernel_rfl)) (fun _ _ _ h => h) (Or.inl ⟨by rfl, ?_⟩) hHeld ?_ ?_
    rotate_left; (rintro w' ⟨s0, s1⟩; go_simp; with_reducible rfl); rotate_left; (simp only [Act.put, pn, i64_w, i32_w]; rfl)
    refine pq 5 (some 11) HT_ rfl rfl (fun _ _ _ h => h) ?_
    refine pq 6 (some 12) HT_ rfl rfl (fun _ _ _ h => h) ?_
    refine pq 7 (some 13) HT_ rfl rfl (fun _ _ _ h => h) ?_
    refine pq 8 (some 14) HT_ rfl rfl (fun _ _ _ h => h) ?_
    refine pq 9 (some 15) HT_ rfl rfl (fun _ _ _ h => h) ?_
    refine pq 11 (some 17) HT_ rfl rfl (fun _ _ _ h => h) ?_
    refine pq 12 (some 18) HT_ rfl rfl (fun _ _ _ h => h) ?_
    refine pq 13 (some 19) HT_ rfl rfl (fun _ _ _ h => h) ?_
    refine pt 10 (some 16) (v := ?_) (a' := ?_) rfl rfl (take_ofW HT_.out HW_.out (by kernel_rfl)) (fun _ _ _ h => h) (Or.inl ⟨by rfl, ?_⟩) hHeld ?_ ?_
    rotate_left; (rintro w' ⟨s0, s1⟩; go_simp; with_reducible rfl); rotate_left; (simp only [Act.put, pn, i64_w, i32_w]; rfl)
    refine pt 14 (some 20) (v := ?_) (a' := ?_) rfl rfl (take_ofW HT_.out HW_.out (by kernel_rfl)) (fun _ _ _ h => h) (Or.inl ⟨by rfl, ?_⟩) hHeld ?_ ?_
    rotate_left; (rintro w' ⟨s0, s1⟩; go_simp; with_reducible rfl); rotate_left; (simp only [Act.put, pn, i64_w, i32_w]; rfl)
    refine pq 15 (some 21) HT_ rfl rfl (fun _ _ _ h => h) ?_
    refine pq 16 (some 22) HT_ rfl rfl (fun _ _ _ h => h) ?_
    refine pq 17 (some 23) HT_ rfl rfl (fun _ _ _ h => h) ?_
    refine one_ (i := 18) (N := some 24) #[true, true, true, true, true, true, true, true, true, true, true, true, true, true, true, true, true, true, true] rfl rfl (one_of HT_.out (by kernel_rfl)) (by decide) (fun K hK => ?_)
    refine goes_ Tryd.func42 (by kernel_rfl) rfl #[.pointer (some ⟨g, 0, none⟩), .bool true, .int .i64 12] (by rfl) rfl rfl (by simp only [List.map_toArray, List.map_cons, List.map_nil]; rfl) ?_
    with_reducible refine (must_true _ _ _).mono ?_
    rintro e_ wm ⟨rfl, rfl⟩
    refine ⟨_, rfl, ?_⟩
    refine hK.out _ _ ⟨hx0, h2⟩ (fun hHeld => ?_)
    clear hK K
    refine norm_ (a' := ?_) ?_ ?_
    rotate_left
    ·show Act.put _ (some 24) _ = _
     simp only [Act.put, pn, i64_w, i32_w]
     rfl
    refine done_ (done_of HT_.out (by kernel_rfl)) ?_
    clear hHeld HT_ HW_
    go_wp2_with fail
    refine start_ (n := 14) (S := fun w' => w'.cell? qx = some (.int .i64 (op : Int)) ∧ w'.cell? ⟨g, 2, none⟩ = some (.slice (some ⟨B, 0, none⟩) 18 18) ∧ w'.cell? ⟨B, op, none⟩ = some (.slice (some ⟨b, 0, none⟩) n n)) (ds := []) #[false, false, false, false, false, false, false, false, false, false, false, false, false, false] (by kernel_rfl) rfl rfl ⟨hx0, h2, hrow⟩ (fun hHeld => ?_)
    refine with_tabW TAB_59.tab1 TAB_59.bits1 (fun HT_ HW_ => ?_)
    refine pq 0 (some 25) HT_ rfl rfl (fun _ _ _ h => h) ?_
    refine pq 1 (some 26) HT_ rfl rfl (fun _ _ _ h => h) ?_
    refine pq 2 (some 27) HT_ rfl rfl (fun _ _ _ h => h) ?_
    refine pq 3 (some 28) HT_ rfl rfl (fun _ _ _ h => h) ?_
    refine pq 5 (some 30) HT_ rfl rfl (fun _ _ _ h => h) ?_
    refine pq 6 (some 31) HT_ rfl rfl (fun _ _ _ h => h) ?_
    refine pq 7 (some 32) HT_ rfl rfl (fun _ _ _ h => h) ?_
    refine pq 11 (some 36) HT_ rfl rfl (fun _ _ _ h => h) ?_
    refine pt 4 (some 29) (v := ?_) (a' := ?_) rfl rfl (take_ofW HT_.out HW_.out (by kernel_rfl)) (fun _ _ _ h => h) (Or.inl ⟨by rfl, ?_⟩) hHeld ?_ ?_
    rotate_left; (rintro w' ⟨s0, s1, s2⟩; go_simp; with_reducible rfl); rotate_left; (simp only [Act.put, pn, i64_w, i32_w]; rfl)
    refine pt 8 (some 33) (v := ?_) (a' := ?_) rfl rfl (take_ofW HT_.out HW_.out (by kernel_rfl)) (fun _ _ _ h => h) (Or.inl ⟨by rfl, ?_⟩) hHeld ?_ ?_
    rotate_left; (rintro w' ⟨s0, s1, s2⟩; go_simp; with_reducible rfl); rotate_left; (simp only [Act.put, pn, i64_w, i32_w]; rfl)
    refine pq 9 (some 34) HT_ rfl rfl (fun _ _ _ h => h) ?_
    refine pt 10 (some 35) (v := ?_) (a' := ?_) rfl rfl (take_ofW HT_.out HW_.out (by kernel_rfl)) (fun _ _ _ h => h) (Or.inl ⟨by rfl, ?_⟩) hHeld ?_ ?_
    rotate_left; (rintro w' ⟨s0, s1, s2⟩; go_simp; with_reducible rfl); rotate_left; (simp only [Act.put, pn, i64_w, i32_w]; rfl)
    refine one_ (i := 12) (N := some 37) #[true, true, true, true, true, true, true, true, true, true, true, true, true, false] rfl rfl (one_of HT_.out (by kernel_rfl)) (by decide) (fun K hK => ?_)
    refine goes_ Tryd.func92 (by kernel_rfl) rfl #[.slice (some ⟨b, 0, none⟩) n n, .pointer (some qx)] (by rfl) rfl rfl (by simp only [List.map_toArray, List.map_cons, List.map_nil]; rfl) ?_
    with_reducible refine (HPl.out).mono ?_
    rintro e_ wc ⟨rfl, hb⟩
    refine ⟨_, rfl, ?_⟩
    have HB := Az.mk hb
    have H4c : Az (wc.cell? ⟨g, 4, none⟩ = some (.int .i64 at_)) := ⟨cZ hb H4.out⟩
    clear hb
    refine hK.out _ _ ⟨cZ HB.out hx0, cZ HB.out h2, cZ HB.out hrow⟩ (fun hHeld => ?_)
    clear hK K
    refine norm_ (a' := ?_) ?_ ?_
    rotate_left
    ·show Act.put _ (some 37) _ = _
     simp only [Act.put, pn, i64_w, i32_w]
     rfl
    refine one_ (i := 13) (N := some 38) #[true, true, true, true, true, true, true, true, true, true, true, true, true, true] rfl rfl (one_of HT_.out (by kernel_rfl)) (by decide) (fun K hK => ?_)
    refine goes_ Tryd.func42 (by kernel_rfl) rfl #[.pointer (some ⟨g, 0, none⟩), .bool true, .int .i64 1] (by rfl) rfl rfl (by simp only [List.map_toArray, List.map_cons, List.map_nil]; rfl) ?_
    with_reducible refine (must_true _ _ _).mono ?_
    rintro e_ wm ⟨rfl, rfl⟩
    refine ⟨_, rfl, ?_⟩
    refine hK.out _ _ ⟨cZ HB.out hx0, cZ HB.out h2, cZ HB.out hrow⟩ (fun hHeld => ?_)
    clear hK K
    refine norm_ (a' := ?_) ?_ ?_
    rotate_left
    ·show Act.put _ (some 38) _ = _
     simp only [Act.put, pn, i64_w, i32_w]
     rfl
    refine done_ (done_of HT_.out (by kernel_rfl)) ?_
    clear hHeld HT_ HW_
    have HBw : Az (Below w.heap.size w wc) := ⟨(below_drew (below_drew (Below.refl w.heap.size w))).trans HB.out⟩
    have HAc := Az.mk (HA.out.below HBw.out)
    have HZc : Az (Below Wz.heap.size Wz wc) := ⟨HZ.out.trans (HBw.out.mono HZ.out.size)⟩
    have HKc : Az (KeepBut w wc g none) := ⟨KeepBut.of_below HBw.out _ _⟩
    replace hx0 := cZ HBw.out hx0
    have h3c := HAc.out.c3
    have hf3c : wc.frozen? ⟨g, 3, none⟩ = false := fZ HAc.out 3
    clear h2 hrow HB
    cases last with
    | false =>
     by_cases d6 : op = 6
     ·by_cases d7 : locs + 1 < 1048576
      ·have HE : Az (opE locs x false = 0) := ⟨by unfold opE; rw [if_pos HC.out, if_pos Hpn.out, if_pos (.inl rfl), if_pos (by have := HF.out; omega), if_pos d7]⟩
       have e6 : ((op : Int) == 6) = true := by rw [beq_iff_eq]; omega
       have hwl : wrap64 (locs + 1) = locs + 1 := wrap_in (by have := HL.out; omega) (by have := HL.out; omega)
       have D6 := Az.mk d6
       clear d6
       go_wp2_with fail
       refine (must_true _ _ _).mono ?_
       rintro e w' ⟨rfl, rfl⟩
       go_wp2_with fail
       have HA2 : Az (AskW (wc.setCell ⟨g, 3, none⟩ (.int .i64 (locs + 1))) g ty rest G A m c B (locs + 1) at_) := ⟨HAc.out.set3 _⟩
       have HZ2 : Az (Below Wz.heap.size Wz (wc.setCell ⟨g, 3, none⟩ (.int .i64 (locs + 1)))) := ⟨sZ HZc.out HG.out⟩
       have HK2 : Az (KeepBut w (wc.setCell ⟨g, 3, none⟩ (.int .i64 (locs + 1))) g none) := ⟨HKc.out.set_ 3 _⟩
       have H4b := Az.mk HA2.out.c4
       refine (must_true _ _ _).mono ?_
       rintro e w' ⟨rfl, rfl⟩
       go_wp2_with fail
       go_end0
       exact ⟨by rw [HE.out]; rfl, fun _ => by rw [show locs + newL x = locs + 1 from by unfold newL; rw [if_pos (by have := HF.out; have := D6.out; omega)]]; exact HA2.out, HZ2.out, HK2.out⟩
      ·have HE : Az (opE locs x false = 21) := ⟨by unfold opE; rw [if_pos HC.out, if_pos Hpn.out, if_pos (.inl rfl), if_pos (by have := HF.out; omega), if_neg d7]⟩
       have e6 : ((op : Int) == 6) = true := by rw [beq_iff_eq]; omega
       have hwl : wrap64 (locs + 1) = locs + 1 := wrap_in (by have := HL.out; omega) (by have := HL.out; omega)
       have D6 := Az.mk d6
       clear d6
       have d7b : decide (locs + 1 < 1048576) = false := decide_eq_false d7
       clear d7
       go_wp2_with fail
       refine (must_true _ _ _).mono ?_
       rintro e w' ⟨rfl, rfl⟩
       go_wp2_with fail
       have HA2 : Az (AskW (wc.setCell ⟨g, 3, none⟩ (.int .i64 (locs + 1))) g ty rest G A m c B (locs + 1) at_) := ⟨HAc.out.set3 _⟩
       have HZ2 : Az (Below Wz.heap.size Wz (wc.setCell ⟨g, 3, none⟩ (.int .i64 (locs + 1)))) := ⟨sZ HZc.out HG.out⟩
       have HK2 : Az (KeepBut w (wc.setCell ⟨g, 3, none⟩ (.int .i64 (locs + 1))) g none) := ⟨HKc.out.set_ 3 _⟩
       have H4b := Az.mk HA2.out.c4
       refine (must_false _ _ _ _ H4b.out).mono ?_
       rintro e w' ⟨rfl, rfl⟩
       go_wp2_with fail
       exact ⟨rfl, headPost_no HE.out (by decide) HZ2.out HK2.out⟩
     ·have HE : Az (opE locs x false = 0) := ⟨by unfold opE; rw [if_pos HC.out, if_pos Hpn.out, if_pos (.inl rfl), if_neg (by have := HF.out; omega)]⟩
      have e6 : ((op : Int) == 6) = false := by rw [beq_eq_false_iff_ne]; omega
      have D := Az.mk d6
      go_wp2_with fail
      refine (must_true _ _ _).mono ?_
      rintro e w' ⟨rfl, rfl⟩
      go_wp2_with fail
      go_end0
      exact ⟨by rw [HE.out]; rfl, fun _ => by rw [show locs + newL x = locs from by unfold newL; rw [if_neg (by have := HF.out; have := D.out; omega)]; omega]; exact HAc.out, HZc.out, HKc.out⟩
    | true =>
     by_cases d13 : op = 13
     ·have HE : Az (opE locs x true = 0) := ⟨by unfold opE; rw [if_pos HC.out, if_pos Hpn.out, if_pos (.inr (.inl (by have := HF.out; omega))), if_neg (by have := HF.out; omega)]⟩
      have e13 : ((op : Int) == 13) = true := by rw [beq_iff_eq]; omega
      have e6 : ((op : Int) == 6) = false := by rw [beq_eq_false_iff_ne]; omega
      have D := Az.mk d13
      clear d13
      go_wp2_with fail
      refine (must_true _ _ _).mono ?_
      rintro e w' ⟨rfl, rfl⟩
      go_wp2_with fail
      go_end0
      exact ⟨by rw [HE.out]; rfl, fun _ => by rw [show locs + newL x = locs from by unfold newL; rw [if_neg (by have := HF.out; have := D.out; omega)]; omega]; exact HAc.out, HZc.out, HKc.out⟩
     ·by_cases d15 : op = 15
      ·have HE : Az (opE locs x true = 0) := ⟨by unfold opE; rw [if_pos HC.out, if_pos Hpn.out, if_pos (.inr (.inr (by have := HF.out; omega))), if_neg (by have := HF.out; omega)]⟩
       have e13 : ((op : Int) == 13) = false := by rw [beq_eq_false_iff_ne]; omega
       have e15 : ((op : Int) == 15) = true := by rw [beq_iff_eq]; omega
       have e6 : ((op : Int) == 6) = false := by rw [beq_eq_false_iff_ne]; omega
       have D := Az.mk d15
       clear d15
       go_wp2_with fail
       refine (must_true _ _ _).mono ?_
       rintro e w' ⟨rfl, rfl⟩
       go_wp2_with fail
       go_end0
       exact ⟨by rw [HE.out]; rfl, fun _ => by rw [show locs + newL x = locs from by unfold newL; rw [if_neg (by have := HF.out; have := D.out; omega)]; omega]; exact HAc.out, HZc.out, HKc.out⟩
      ·have HE : Az (opE locs x true = 19) := ⟨by unfold opE; rw [if_pos HC.out, if_pos Hpn.out, if_neg (by have := HF.out; simp; omega)]⟩
       have e13 : ((op : Int) == 13) = false := by rw [beq_eq_false_iff_ne]; omega
       have e15 : ((op : Int) == 15) = false := by rw [beq_eq_false_iff_ne]; omega
       go_wp2_with fail
       refine (must_false _ _ _ _ H4c.out).mono ?_
       rintro e w' ⟨rfl, rfl⟩
       go_wp2_with fail
       exact ⟨rfl, headPost_no HE.out (by decide) HZc.out HKc.out⟩
  ·have HE : Az (opE locs x last = 12) := ⟨by unfold opE; rw [if_neg (fun h => c1 h.2)]⟩
   have cb : decide (x.f0 < 18) = false := decide_eq_false c1
   clear c1
   go_enter Tryd.func59, Tryd.ntmps59
   go_wp2_with fail
   refine start_ (n := 19) (S := fun w' => w'.cell? qx = some (.int .i64 x.f0) ∧ w'.cell? ⟨g, 2, none⟩ = some (.slice (some ⟨B, 0, none⟩) 18 18)) (ds := []) #[false, false, false, false, false, false, false, false, false, false, false, false, false, false, false, false, false, false, false] (by kernel_rfl) rfl rfl ⟨hx0, h2⟩ (fun hHeld => ?_)
   refine with_tabW TAB_59.tab0 TAB_59.bits0 (fun HT_ HW_ => ?_)
   refine pq 0 (some 6) HT_ rfl rfl (fun _ _ _ h => h) ?_
   refine pq 1 (some 7) HT_ rfl rfl (fun _ _ _ h => h) ?_
   refine pq 2 (some 8) HT_ rfl rfl (fun _ _ _ h => h) ?_
   refine pq 3 (some 9) HT_ rfl rfl (fun _ _ _ h => h) ?_
   refine pt 4 (some 10) (v := ?_) (a' := ?_) rfl rfl (take_ofW HT_.out HW_.out (by kernel_rfl)) (fun _ _ _ h => h) (Or.inl ⟨by rfl, ?_⟩) hHeld ?_ ?_
   rotate_left; (rintro w' ⟨s0, s1⟩; go_simp; with_reducible rfl); rotate_left; (simp only [Act.put, pn, i64_w, i32_w]; rfl)
   refine pq 5 (some 11) HT_ rfl rfl (fun _ _ _ h => h) ?_
   refine pq 6 (some 12) HT_ rfl rfl (fun _ _ _ h => h) ?_
   refine pq 7 (some 13) HT_ rfl rfl (fun _ _ _ h => h) ?_
   refine pq 8 (some 14) HT_ rfl rfl (fun _ _ _ h => h) ?_
   refine pq 9 (some 15) HT_ rfl rfl (fun _ _ _ h => h) ?_
   refine pq 11 (some 17) HT_ rfl rfl (fun _ _ _ h => h) ?_
   refine pq 12 (some 18) HT_ rfl rfl (fun _ _ _ h => h) ?_
   refine pq 13 (some 19) HT_ rfl rfl (fun _ _ _ h => h) ?_
   refine pt 10 (some 16) (v := ?_) (a' := ?_) rfl rfl (take_ofW HT_.out HW_.out (by kernel_rfl)) (fun _ _ _ h => h) (Or.inl ⟨by rfl, ?_⟩) hHeld ?_ ?_
   rotate_left; (rintro w' ⟨s0, s1⟩; go_simp; with_reducible rfl); rotate_left; (simp only [Act.put, pn, i64_w, i32_w]; rfl)
   refine pt 14 (some 20) (v := ?_) (a' := ?_) rfl rfl (take_ofW HT_.out HW_.out (by kernel_rfl)) (fun _ _ _ h => h) (Or.inl ⟨by rfl, ?_⟩) hHeld ?_ ?_
   rotate_left; (rintro w' ⟨s0, s1⟩; go_simp; with_reducible rfl); rotate_left; (simp only [Act.put, pn, i64_w, i32_w]; rfl)
   refine pq 15 (some 21) HT_ rfl rfl (fun _ _ _ h => h) ?_
   refine pq 16 (some 22) HT_ rfl rfl (fun _ _ _ h => h) ?_
   refine pq 17 (some 23) HT_ rfl rfl (fun _ _ _ h => h) ?_
   refine one_ (i := 18) (N := some 24) #[true, true, true, true, true, true, true, true, true, true, true, true, true, true, true, true, true, true, true] rfl rfl (one_of HT_.out (by kernel_rfl)) (by decide) (fun K hK => ?_)
   refine goesP_ Tryd.func42 (by kernel_rfl) rfl #[.pointer (some ⟨g, 0, none⟩), .bool false, .int .i64 12] (by rfl) rfl rfl (by simp only [List.map_toArray, List.map_cons, List.map_nil]; rfl) ?_
   with_reducible refine (must_false _ _ _ _ H4.out).mono ?_
   rintro e_ wm ⟨rfl, rfl⟩
   refine ⟨_, rfl, ?_⟩
   exact ⟨rfl, headPost_no HE.out (by decide) (below_drew HZ.out) (KeepBut.of_below (below_drew (Below.refl _ _)) _ _)⟩
 ·have HE : Az (opE locs x last = 12) := ⟨by unfold opE; rw [if_neg (fun h => c0 h.1)]⟩
  have cb : decide (1 ≤ x.f0) = false := decide_eq_false c0
  clear c0
  go_enter Tryd.func59, Tryd.ntmps59
  go_wp2_with fail
  refine start_ (n := 19) (S := fun w' => w'.cell? qx = some (.int .i64 x.f0) ∧ w'.cell? ⟨g, 2, none⟩ = some (.slice (some ⟨B, 0, none⟩) 18 18)) (ds := []) #[false, false, false, false, false, false, false, false, false, false, false, false, false, false, false, false, false, false, false] (by kernel_rfl) rfl rfl ⟨hx0, h2⟩ (fun hHeld => ?_)
  refine with_tabW TAB_59.tab0 TAB_59.bits0 (fun HT_ HW_ => ?_)
  refine pq 0 (some 6) HT_ rfl rfl (fun _ _ _ h => h) ?_
  refine pq 1 (some 7) HT_ rfl rfl (fun _ _ _ h => h) ?_
  refine pq 2 (some 8) HT_ rfl rfl (fun _ _ _ h => h) ?_
  refine pq 3 (some 9) HT_ rfl rfl (fun _ _ _ h => h) ?_
  refine pt 4 (some 10) (v := ?_) (a' := ?_) rfl rfl (take_ofW HT_.out HW_.out (by kernel_rfl)) (fun _ _ _ h => h) (Or.inl ⟨by rfl, ?_⟩) hHeld ?_ ?_
  rotate_left; (rintro w' ⟨s0, s1⟩; go_simp; with_reducible rfl); rotate_left; (simp only [Act.put, pn, i64_w, i32_w]; rfl)
  refine pq 5 (some 11) HT_ rfl rfl (fun _ _ _ h => h) ?_
  refine pq 6 (some 12) HT_ rfl rfl (fun _ _ _ h => h) ?_
  refine pure_ (i := 7) (N := some 13) (v := undef) (a' := ?_) #[true, true, true, true, true, true, true, true, false, false, false, false, false, false, false, false, false, false, false] rfl rfl (any_of HT_.out (by kernel_rfl)) (fun _ _ _ h => h) (Or.inr ⟨by rfl, rfl⟩) ?_ ?_
  rotate_left
  ·simp only [Act.put, pn, i64_w, i32_w]
   rfl
  refine pure_ (i := 8) (N := some 14) (v := undef) (a' := ?_) #[true, true, true, true, true, true, true, true, true, false, false, false, false, false, false, false, false, false, false] rfl rfl (any_of HT_.out (by kernel_rfl)) (fun _ _ _ h => h) (Or.inr ⟨by rfl, rfl⟩) ?_ ?_
  rotate_left
  ·simp only [Act.put, pn, i64_w, i32_w]
   rfl
  refine pure_ (i := 9) (N := some 15) (v := undef) (a' := ?_) #[true, true, true, true, true, true, true, true, true, true, false, false, false, false, false, false, false, false, false] rfl rfl (any_of HT_.out (by kernel_rfl)) (fun _ _ _ h => h) (Or.inr ⟨by rfl, rfl⟩) ?_ ?_
  rotate_left
  ·simp only [Act.put, pn, i64_w, i32_w]
   rfl
  refine pure_ (i := 10) (N := some 16) (v := undef) (a' := ?_) #[true, true, true, true, true, true, true, true, true, true, true, false, false, false, false, false, false, false, false] rfl rfl (any_of HT_.out (by kernel_rfl)) (fun _ _ _ h => h) (Or.inr ⟨by rfl, rfl⟩) ?_ ?_
  rotate_left
  ·simp only [Act.put, pn, i64_w, i32_w]
   rfl
  refine pure_ (i := 11) (N := some 17) (v := undef) (a' := ?_) #[true, true, true, true, true, true, true, true, true, true, true, true, false, false, false, false, false, false, false] rfl rfl (any_of HT_.out (by kernel_rfl)) (fun _ _ _ h => h) (Or.inr ⟨by rfl, rfl⟩) ?_ ?_
  rotate_left
  ·simp only [Act.put, pn, i64_w, i32_w]
   rfl
  refine pure_ (i := 12) (N := some 18) (v := undef) (a' := ?_) #[true, true, true, true, true, true, true, true, true, true, true, true, true, false, false, false, false, false, false] rfl rfl (any_of HT_.out (by kernel_rfl)) (fun _ _ _ h => h) (Or.inr ⟨by rfl, rfl⟩) ?_ ?_
  rotate_left
  ·simp only [Act.put, pn, i64_w, i32_w]
   rfl
  refine pure_ (i := 13) (N := some 19) (v := undef) (a' := ?_) #[true, true, true, true, true, true, true, true, true, true, true, true, true, true, false, false, false, false, false] rfl rfl (any_of HT_.out (by kernel_rfl)) (fun _ _ _ h => h) (Or.inr ⟨by rfl, rfl⟩) ?_ ?_
  rotate_left
  ·simp only [Act.put, pn, i64_w, i32_w]
   rfl
  refine pure_ (i := 14) (N := some 20) (v := undef) (a' := ?_) #[true, true, true, true, true, true, true, true, true, true, true, true, true, true, true, false, false, false, false] rfl rfl (any_of HT_.out (by kernel_rfl)) (fun _ _ _ h => h) (Or.inr ⟨by rfl, rfl⟩) ?_ ?_
  rotate_left
  ·simp only [Act.put, pn, i64_w, i32_w]
   rfl
  refine pure_ (i := 15) (N := some 21) (v := undef) (a' := ?_) #[true, true, true, true, true, true, true, true, true, true, true, true, true, true, true, true, false, false, false] rfl rfl (any_of HT_.out (by kernel_rfl)) (fun _ _ _ h => h) (Or.inr ⟨by rfl, rfl⟩) ?_ ?_
  rotate_left
  ·simp only [Act.put, pn, i64_w, i32_w]
   rfl
  refine pure_ (i := 16) (N := some 22) (v := undef) (a' := ?_) #[true, true, true, true, true, true, true, true, true, true, true, true, true, true, true, true, true, false, false] rfl rfl (any_of HT_.out (by kernel_rfl)) (fun _ _ _ h => h) (Or.inr ⟨by rfl, rfl⟩) ?_ ?_
  rotate_left
  ·simp only [Act.put, pn, i64_w, i32_w]
   rfl
  refine pq 17 (some 23) HT_ rfl rfl (fun _ _ _ h => h) ?_
  refine one_ (i := 18) (N := some 24) #[true, true, true, true, true, true, true, true, true, true, true, true, true, true, true, true, true, true, true] rfl rfl (one_of HT_.out (by kernel_rfl)) (by decide) (fun K hK => ?_)
  refine goesP_ Tryd.func42 (by kernel_rfl) rfl #[.pointer (some ⟨g, 0, none⟩), .bool false, .int .i64 12] (by rfl) rfl rfl (by simp only [List.map_toArray, List.map_cons, List.map_nil]; rfl) ?_
  with_reducible refine (must_false _ _ _ _ H4.out).mono ?_
  rintro e_ wm ⟨rfl, rfl⟩
  refine ⟨_, rfl, ?_⟩
  exact ⟨rfl, headPost_no HE.out (by decide) (below_drew HZ.out) (KeepBut.of_below (below_drew (Below.refl _ _)) _ _)⟩
theorem goesV_ {P : Program} {ops : Array Oper} {Q : Exit → Act → World → Prop} {oi : Oper} {N : Option Tmp} {a : Act} {w : World} {K : Act → World → Prop} {f : FuncId} {cap : Array Value} {c : Operand} {as_ : Array Operand} {ts : Array TypeId} (hen : ∀ (args : Array Value) (w : World), (callFunc f args).run P w = .ok (.enter f args) w) (args : Array Value)
  (hw : Region.wanted oi (yielded ops a.tmps) = true) (hN : oi.dst = N) (hop : oi.op = .call { callee := .value c, args := as_, argTypes := ts }) (hc : a.eval c = .func (Fn.func f) #[] cap) (hargs : as_.map a.eval ++ cap = args)
  (h : Calls P f args w fun e w' => ∃ v, e = .returned v ∧ K (a.put N v) w') : if Region.wanted oi (yielded ops a.tmps) = true then Oper.wp P oi a w K Q else K (a.put N undef) w := by
 refine call_ f args hw hN ?_ h
 have he := hen args w
 unfold execOp
 simp [hop, resolve, Deferred.ofValue, invoke, hc, hargs, he]
theorem goesVP_ {P : Program} {ops : Array Oper} {Q : Exit → Act → World → Prop} {oi : Oper} {N : Option Tmp} {a : Act} {w : World} {K : Act → World → Prop} {f : FuncId} {cap : Array Value} {c : Operand} {as_ : Array Operand} {ts : Array TypeId} (hen : ∀ (args : Array Value) (w : World), (callFunc f args).run P w = .ok (.enter f args) w) (args : Array Value)
  (hw : Region.wanted oi (yielded ops a.tmps) = true) (hN : oi.dst = N) (hop : oi.op = .call { callee := .value c, args := as_, argTypes := ts }) (hc : a.eval c = .func (Fn.func f) #[] cap) (hargs : as_.map a.eval ++ cap = args)
  (h : Calls P f args w fun e w' => ∃ ch, e = .panicked ch ∧ Q (.panic ch) a w') : if Region.wanted oi (yielded ops a.tmps) = true then Oper.wp P oi a w K Q else K (a.put N undef) w := by
 refine callP_ f args hw hN ?_ h
 have he := hen args w
 unfold execOp
 simp [hop, resolve, Deferred.ofValue, invoke, hc, hargs, he]
theorem ent73 : Enters 73 := fun _ _ => enters_ Tryd.func73 (by kernel_rfl) (by kernel_rfl) _ _
theorem ent97 : Enters 97 := fun _ _ => enters_ Tryd.func97 (by kernel_rfl) (by kernel_rfl) _ _
theorem ent102 : Enters 102 := fun _ _ => enters_ Tryd.func102 (by kernel_rfl) (by kernel_rfl) _ _
theorem ent103 : Enters 103 := fun _ _ => enters_ Tryd.func103 (by kernel_rfl) (by kernel_rfl) _ _
theorem ask_int (a b c : Value) (n : Value) (at_ : Int) (w : World) : Calls Tryd.prog 73 #[a, b, c, n] w fun e w' => AskPost w 0 at_ e w' := by
 go_enter Tryd.func73, Tryd.ntmps73
 go_wp2
 go_end0
 exact askPost_ok rfl (Below.refl _ _)
def HeadsC (w : World) (A : Option Addr) (fs : List S46) : Prop := ∀ (i : Nat) (h : i < fs.length), ∃ ad, A = some ad ∧ w.cell? (ad.add (i * 4)) = some (.int .i64 fs[i].f0) ∧ w.cell? ⟨(ad.add (i * 4)).block, (ad.add (i * 4)).off + 1, none⟩ = some (.int .i64 fs[i].f1)
theorem HeadsC.below {w w' : World} {A : Option Addr} {fs : List S46} (h : HeadsC w A fs) (hb : Below w.heap.size w w') : HeadsC w' A fs := fun i hi => by
 obtain ⟨ad, e, h0, h1⟩ := h i hi
 exact ⟨ad, e, cZ hb h0, cZ hb h1⟩
def partE (G : Int) (fs : List S46) (R V n : Int) (x : S50) : PK → Int
 | .R => varE V x.f1
 | .S => varE V x.f2
 | .T => varE V x.f3
 | .int => 0
 | .fields => numE 1 9 17 x.f4
 | .field => numE 0 8 17 x.f4
 | .glob => numE 0 G 18 x.f4
 | .func => numE 0 fs.length 14 x.f4
 | .jump => numE 0 n 16 x.f4
 | .args => listE (fs.getD x.f4.toNat z46).f0 V x.f5
 | .rets => listE (fs.getD x.f4.toNat z46).f1 V x.f6
 | .vals => listE R V x.f5
def mayAsk (fs : List S46) (x : S50) : PK → Prop
 | .args | .rets => 0 ≤ x.f4 ∧ x.f4 < fs.length
 | _ => True
theorem callee_heads {w : World} {A : Option Addr} {fs : List S46} {N : Int} (h : HeadsC w A fs) (h0 : 0 ≤ N) (h1 : N < fs.length) : ∃ ad, A = some ad ∧ w.cell? (ad.add (N.toNat * 4)) = some (.int .i64 (fs.getD N.toNat z46).f0) ∧ w.cell? ⟨(ad.add (N.toNat * 4)).block, (ad.add (N.toNat * 4)).off + 1, none⟩ = some (.int .i64 (fs.getD N.toNat z46).f1) := by
 obtain ⟨ad, e, g0, g1⟩ := h N.toNat (by omega)
 have hg : fs.getD N.toNat z46 = fs[N.toNat]'(by omega) := by rw [List.getD_eq_getElem?_getD, List.getElem?_eq_getElem (by omega)]; rfl
 rw [hg]
 exact ⟨ad, e, g0, g1⟩
theorem ask_part (k : PK) (c0 c1 c2 c3 : Value) (g : Nat) (qf qx : Addr) (ty : TypeId) (rest : List Value) (G : Int) (A : Option Addr) (c B : Nat) (locs at_ R V n : Int) (fs : List S46) (x : S50) (A5 : Option Addr) (c5 : Nat) (A6 : Option Addr) (c6 : Nat) (w : World) (hp : PartIs w k [c0, c1, c2, c3]) (hA : AskW w g ty rest G A fs.length c B locs at_) (hF : HeadsC w A fs)
  (hR : w.cell? ⟨qf.block, qf.off + 1, none⟩ = some (.int .i64 R)) (hV : w.cell? ⟨qf.block, qf.off + 2, none⟩ = some (.int .i64 V)) (hx : InsW w qx x A5 c5 A6 c6) (h5 : (Kd.int .i64).C w A5 x.f5.length x.f5) (h6 : (Kd.int .i64).C w A6 x.f6.length x.f6) (hm : mayAsk fs x k) :
  ∃ fn cap, c1 = .func (Fn.func fn) #[] cap ∧ Enters fn ∧ Calls Tryd.prog fn (#[.pointer (some ⟨g, 0, none⟩), .pointer (some qf), .pointer (some qx), .int .i64 n] ++ cap) w fun e w' => AskPost w (partE G fs R V n x k) at_ e w' := by
 have hp0 := hp
 have f69 : ∀ (q : Addr) (w : World), Calls Tryd.prog 69 #[.pointer (some q)] w fun e w' => e = .returned (.pointer (some ⟨q.block, q.off + 1, none⟩)) ∧ w = w' := of69
 cases k
 case R =>
  obtain ⟨b1, b2, he, h1, _⟩ := hp
  injection he with _ he; injection he with he _
  exact ⟨97, _, he, ent97, ask_var 69 1 of69 (.inl rfl) g b1 qf qx n V x.f1 at_ w hA.c4 hV hx.2.1 h1⟩
 case S =>
  obtain ⟨b1, b2, he, h1, _⟩ := hp
  injection he with _ he; injection he with he _
  exact ⟨97, _, he, ent97, ask_var 70 2 of70 (.inr (.inl rfl)) g b1 qf qx n V x.f2 at_ w hA.c4 hV hx.2.2.1 h1⟩
 case T =>
  obtain ⟨b1, b2, he, h1, _⟩ := hp
  injection he with _ he; injection he with he _
  exact ⟨97, _, he, ent97, ask_var 71 3 of71 (.inr (.inr rfl)) g b1 qf qx n V x.f3 at_ w hA.c4 hV hx.2.2.2.1 h1⟩
 case int =>
  obtain ⟨b1, he, h1⟩ := hp
  injection he with _ he; injection he with he _
  exact ⟨73, #[], he, ent73, ask_int _ _ _ _ at_ w⟩
 case fields =>
  obtain ⟨b1, b3, b4, b5, he, _, h3, h4, h5⟩ := hp
  injection he with _ he; injection he with he _
  exact ⟨102, _, he, ent102, ask_num 75 ent75 9 1 17 (by decide) g b3 b4 b5 qf qx n x.f4 at_ w (end75 g n w.drew) hA.c4 hx.2.2.2.2.1 h3 h4 h5⟩
 case field =>
  obtain ⟨b1, b3, b4, b5, he, _, h3, h4, h5⟩ := hp
  injection he with _ he; injection he with he _
  exact ⟨102, _, he, ent102, ask_num 76 ent76 8 0 17 (by decide) g b3 b4 b5 qf qx n x.f4 at_ w (end76 g n w.drew) hA.c4 hx.2.2.2.2.1 h3 h4 h5⟩
 case glob =>
  obtain ⟨b1, b3, b4, b5, he, _, h3, h4, h5⟩ := hp
  injection he with _ he; injection he with he _
  exact ⟨102, _, he, ent102, ask_num 77 ent77 G 0 18 (by decide) g b3 b4 b5 qf qx n x.f4 at_ w (end77 g n G w.drew hA.c0) hA.c4 hx.2.2.2.2.1 h3 h4 h5⟩
 case func =>
  obtain ⟨b1, b3, b4, b5, he, _, h3, h4, h5⟩ := hp
  injection he with _ he; injection he with he _
  exact ⟨102, _, he, ent102, ask_num 78 ent78 fs.length 0 14 (by decide) g b3 b4 b5 qf qx n x.f4 at_ w (end78 g n A fs.length c w.drew hA.c1) hA.c4 hx.2.2.2.2.1 h3 h4 h5⟩
 case jump =>
  obtain ⟨b1, b3, b4, b5, he, _, h3, h4, h5⟩ := hp
  injection he with _ he; injection he with he _
  exact ⟨102, _, he, ent102, ask_num 79 ent79 n 0 16 (by decide) g b3 b4 b5 qf qx n x.f4 at_ w (end79 g n w.drew) hA.c4 hx.2.2.2.2.1 h3 h4 h5⟩
 case args =>
  obtain ⟨b4, b5, he, h4, h5b⟩ := hp
  injection he with _ he; injection he with he _
  obtain ⟨ad, rfl, g0, g1⟩ := callee_heads hF hm.1 hm.2
  exact ⟨103, _, he, ent103, ask_list 81 82 5 ent81 ent82 g b4 b5 qf qx n V _ at_ A5 c5 x.f5 w (of81 qx w) (want82 g qf qx ad fs.length c x.f4 _ w hA.c1 hx.2.2.2.2.1 hm.1 hm.2 g0) hA.c4 hx.2.2.2.2.2.1 hV h5 h4 h5b⟩
 case rets =>
  obtain ⟨b4, b5, he, h4, h5b⟩ := hp
  injection he with _ he; injection he with he _
  obtain ⟨ad, rfl, g0, g1⟩ := callee_heads hF hm.1 hm.2
  exact ⟨103, _, he, ent103, ask_list 83 84 6 ent83 ent84 g b4 b5 qf qx n V _ at_ A6 c6 x.f6 w (of83 qx w) (want84 g qf qx ad fs.length c x.f4 _ w hA.c1 hx.2.2.2.2.1 hm.1 hm.2 g1) hA.c4 hx.2.2.2.2.2.2 hV h6 h4 h5b⟩
 case vals =>
  obtain ⟨b4, b5, he, h4, h5b⟩ := hp
  injection he with _ he; injection he with he _
  exact ⟨103, _, he, ent103, ask_list 81 85 5 ent81 ent85 g b4 b5 qf qx n V R at_ A5 c5 x.f5 w (of81 qx w) (want85 g qf qx R w hR) hA.c4 hx.2.2.2.2.2.1 hV h5 h4 h5b⟩
theorem wp_tmps {P : Program} {c : Code} {Q : Exit → Act → World → Prop} {T T' : Array Value} {w : World} (e : T = T') (h : c.wp P Q { tmps := T', defers := [] } w) : c.wp P Q { tmps := T, defers := [] } w := e ▸ h
theorem assert_stop (er at_ : Int) (w : World) : (Instr.typeAssert (stopV er at_) 20 74 true).run Tryd.prog w = .ok (.tuple #[.agg #[.int .i64 er, .int .i64 at_], .bool true]) w := by kernel_rfl
theorem assert_nil (w : World) : (Instr.typeAssert .nilIface 20 74 true).run Tryd.prog w = .ok (.tuple #[.agg #[.int .i64 0, .int .i64 0], .bool false]) w := by kernel_rfl
set_option maxHeartbeats 8000000 in
set_option maxRecDepth 100000 in
theorem catch_idle (ge : Nat) (w : World) : CallsD Tryd.prog 57 #[.pointer (some ⟨ge, 0, none⟩)] .returning w fun e u' w' => e = .returned (.tuple #[]) ∧ u' = .returning ∧ w' = w.alloc (.cells #[.int .i64 0, .int .i64 0] 74) := by
 have hta := assert_nil
 refine callsD_of_wpS Tryd.func57 rfl fun c₀ cs hu => ?_
 apply wpS_seq
 apply wpS_region
 simp [wpOpsS, go_sem, recoverD, hu, Tryd.ntmps57, Exit.thenS, hta]
 refine wpS_of_wp ?_
 generalize hQ : (fun e a' w' => bodyPostS Tryd.prog Tryd.f57 c₀ _ _ e a' _ w') = Q
 refine wp_tmps (T' := #[.pointer (some ⟨ge, 0, none⟩), .pointer (some ⟨w.heap.size, 0, none⟩), .bool false, .tuple #[.agg #[.int .i64 0, .int .i64 0], .bool false], .nilIface, .tuple #[.agg #[.int .i64 0, .int .i64 0], .bool false], .agg #[.int .i64 0, .int .i64 0], .bool false, undef, undef, undef]) (by kernel_rfl) ?_
 go_wp2
 subst hQ
 cases c₀
 simp_all [bodyPostS, results, Tryd.results57]
set_option maxHeartbeats 8000000 in
set_option maxRecDepth 100000 in
theorem catch_stop (ge : Nat) (x er at_ : Int) (w : World) (hb : w.heap[ge]? = some (.cells #[.int .i64 x] 27 (0, 0))) :
  CallsD Tryd.prog 57 #[.pointer (some ⟨ge, 0, none⟩)] (.panicking ({ v := stopV er at_, recovered := false } :: [])) w fun e u' w' => e = .returned (.tuple #[]) ∧ u' = .panicking ({ v := stopV er at_, recovered := true } :: []) ∧ w' = (w.alloc (.cells #[.int .i64 er, .int .i64 at_] 74)).setCell ⟨ge, 0, none⟩ (.int .i64 er) := by
 have hta := assert_stop er at_
 have hc2 : (w.alloc (.cells #[.int .i64 er, .int .i64 at_] 74)).cell? ⟨ge, 0, none⟩ = some (.int .i64 x) := (bZ (aZ hb _) 0).trans rfl
 have hz2 := fZ (aZ hb (.cells #[.int .i64 er, .int .i64 at_] 74)) 0
 clear hb
 unfold stopV at hta ⊢
 refine callsD_of_wpS Tryd.func57 rfl fun c₀ cs hu => ?_
 apply wpS_seq
 apply wpS_region
 simp [wpOpsS, go_sem, recoverD, hu, Tryd.ntmps57, Exit.thenS, hta]
 refine wpS_of_wp ?_
 generalize hQ : (fun e a' w' => bodyPostS Tryd.prog Tryd.f57 c₀ _ _ e a' _ w') = Q
 refine wp_tmps (T' := #[.pointer (some ⟨ge, 0, none⟩), .pointer (some ⟨w.heap.size, 0, none⟩), .bool true, .tuple #[.agg #[.int .i64 er, .int .i64 at_], .bool true], .iface 74 (.agg #[.int .i64 er, .int .i64 at_]), .tuple #[.agg #[.int .i64 er, .int .i64 at_], .bool true], .agg #[.int .i64 er, .int .i64 at_], .bool true, undef, undef, undef]) (by kernel_rfl) ?_
 go_wp2
 subst hQ
 cases c₀
 simp_all [bodyPostS, results, Tryd.results57]
def iter (step : Nat → Int → Int × Int) : Nat → Int → Int × Int
 | 0, l => (0, l)
 | q + 1, l => if (iter step q l).1 = 0 then step q (iter step q l).2 else iter step q l
theorem iter_next {step : Nat → Int → Int × Int} {q : Nat} {l l' : Int} (h : iter step q l = (0, l')) : iter step (q + 1) l = step q l' := by
 show (if (iter step q l).1 = 0 then step q (iter step q l).2 else iter step q l) = _
 rw [h, if_pos rfl]
theorem iter_stop {step : Nat → Int → Int × Int} {q : Nat} {l : Int} (h : (iter step q l).1 ≠ 0) : ∀ n, q ≤ n → iter step n l = iter step q l
 | 0, hn => by
  obtain rfl : q = 0 := by omega
  rfl
 | n + 1, hn => by
  by_cases e : q = n + 1
  ·rw [e]
  ·have ih := iter_stop h n (by omega)
   show (if (iter step n l).1 = 0 then step n (iter step n l).2 else iter step n l) = _
   rw [ih, if_neg h]
def headS (fs : List S46) (q : Nat) (l : Int) : Int × Int :=
 (headE l (fs.getD q z46).f0 (fs.getD q z46).f1 (fs.getD q z46).f2 (fs.getD q z46).f3.length, l + (fs.getD q z46).f2)
def partS (G : Int) (fs : List S46) (f : S46) (x : S50) (j : Nat) (l : Int) : Int × Int := (partE G fs f.f1 f.f2 f.f3.length x ((partsOf x.f0.toNat).getD j .R), l)
def partsE (G : Int) (fs : List S46) (f : S46) (x : S50) : Int := (iter (partS G fs f x) (partsOf x.f0.toNat).length 0).1
def instrS (G : Int) (fs : List S46) (f : S46) (q : Nat) (l : Int) : Int × Int :=
 (if opE l (f.f3.getD q z50) (q + 1 == f.f3.length) = 0 then partsE G fs f (f.f3.getD q z50) else opE l (f.f3.getD q z50) (q + 1 == f.f3.length), l + newL (f.f3.getD q z50))
def codeS (G : Int) (fs : List S46) (i : Nat) (l : Int) : Int × Int := iter (instrS G fs (fs.getD i z46)) (fs.getD i z46).f3.length l
def firstE (G : Int) (fs : List S46) : Int :=
 if globE G = 0 then (if funcsE fs.length = 0 then (if (iter (headS fs) fs.length 0).1 = 0 then (iter (codeS G fs) fs.length (iter (headS fs) fs.length 0).2).1 else (iter (headS fs) fs.length 0).1) else funcsE fs.length) else globE G
theorem at46 {w : World} {A : Option Addr} {n : Nat} {xs : List S46} (h : k46.C w A n xs) (i : Nat) (hi : i < xs.length) (hn : n = xs.length) : ∃ ad A3 c3, A = some ad ∧ w.cell? (ad.add (i * 4)) = some (.int .i64 xs[i].f0) ∧ w.cell? ⟨(ad.add (i * 4)).block, (ad.add (i * 4)).off + 1, none⟩ = some (.int .i64 xs[i].f1) ∧ w.cell? ⟨(ad.add (i * 4)).block, (ad.add (i * 4)).off + 2, none⟩ = some (.int .i64 xs[i].f2) ∧ w.cell? ⟨(ad.add (i * 4)).block, (ad.add (i * 4)).off + 3, none⟩ = some (.slice A3 xs[i].f3.length c3) ∧ k50.C w A3 xs[i].f3.length xs[i].f3 := by
 obtain ⟨ad, h1, h2⟩ := h.2.2 (by omega)
 obtain ⟨c, hc, hK, hcell⟩ := h2 i xs[i] (List.getElem?_eq_getElem hi)
 obtain ⟨A3, c3, rfl, _, g3⟩ := k46_open hK
 refine ⟨ad, A3, c3, h1, hcell 0 _ rfl, ?_, ?_, ?_, g3⟩
 ·rw [← add_field ad (i * 4) 1 (by omega)]; exact hcell 1 _ rfl
 ·rw [← add_field ad (i * 4) 2 (by omega)]; exact hcell 2 _ rfl
 ·rw [← add_field ad (i * 4) 3 (by omega)]; exact hcell 3 _ rfl
theorem at50 {w : World} {A : Option Addr} {n : Nat} {xs : List S50} (h : k50.C w A n xs) (i : Nat) (hi : i < xs.length) (hn : n = xs.length) : ∃ ad A5 c5 A6 c6, A = some ad ∧ InsW w (ad.add (i * 7)) xs[i] A5 c5 A6 c6 ∧ (Kd.int .i64).C w A5 xs[i].f5.length xs[i].f5 ∧ (Kd.int .i64).C w A6 xs[i].f6.length xs[i].f6 := by
 obtain ⟨ad, h1, h2⟩ := h.2.2 (by omega)
 obtain ⟨c, hc, hK, hcell⟩ := h2 i xs[i] (List.getElem?_eq_getElem hi)
 obtain ⟨A5, c5, A6, c6, rfl, _, g5, _, g6⟩ := k50_open hK
 refine ⟨ad, A5, c5, A6, c6, h1, ⟨hcell 0 _ rfl, ?_, ?_, ?_, ?_, ?_, ?_⟩, g5, g6⟩
 ·rw [← add_field ad (i * 7) 1 (by omega)]; exact hcell 1 _ rfl
 ·rw [← add_field ad (i * 7) 2 (by omega)]; exact hcell 2 _ rfl
 ·rw [← add_field ad (i * 7) 3 (by omega)]; exact hcell 3 _ rfl
 ·rw [← add_field ad (i * 7) 4 (by omega)]; exact hcell 4 _ rfl
 ·rw [← add_field ad (i * 7) 5 (by omega)]; exact hcell 5 _ rfl
 ·rw [← add_field ad (i * 7) 6 (by omega)]; exact hcell 6 _ rfl
theorem heads_of {w : World} {A : Option Addr} {xs : List S46} (h : k46.C w A xs.length xs) : HeadsC w A xs := fun i hi => by
 obtain ⟨ad, A3, c3, e, h0, h1, _⟩ := at46 h i hi rfl
 exact ⟨ad, e, h0, h1⟩
theorem getD46 (xs : List S46) (i : Nat) (h : i < xs.length) : xs.getD i z46 = xs[i] := by rw [List.getD_eq_getElem?_getD, List.getElem?_eq_getElem h]; rfl
theorem getD50 (xs : List S50) (i : Nat) (h : i < xs.length) : xs.getD i z50 = xs[i] := by rw [List.getD_eq_getElem?_getD, List.getElem?_eq_getElem h]; rfl
theorem AskPost.cases {w w' : World} {er at_ : Int} {e : Ending} (h : AskPost w er at_ e w') : (er = 0 ∧ e = .returned (.tuple #[]) ∨ er ≠ 0 ∧ e = .panicked [{ v := stopV er at_, recovered := false }]) ∧ Below w.heap.size w w' := by
 obtain ⟨he, hb⟩ := h
 by_cases h0 : er = 0
 ·rw [if_pos h0] at he; exact ⟨.inl ⟨h0, he⟩, hb⟩
 ·rw [if_neg h0] at he; exact ⟨.inr ⟨h0, he⟩, hb⟩
theorem headE_ok {locs P R V n : Int} (h : headE locs P R V n = 0) : 0 ≤ V ∧ locs + V < 1048576 := by
 unfold headE at h
 by_cases hb : headB P R V n = true
 ·rw [if_pos hb] at h
  unfold headB at hb
  simp only [Bool.and_eq_true, decide_eq_true_eq] at hb
  by_cases h1 : 1 ≤ n
  ·rw [if_pos h1] at h
   by_cases h2 : locs + V < 1048576
   ·omega
   ·rw [if_neg h2] at h; omega
  ·rw [if_neg h1] at h; omega
 ·rw [if_neg hb] at h; omega
theorem opE_ok {locs : Int} {x : S50} {last : Bool} (hl : 0 ≤ locs ∧ locs < 1048576) (h : opE locs x last = 0) : 1 ≤ x.f0 ∧ x.f0 < 18 ∧ 0 ≤ locs + newL x ∧ locs + newL x < 1048576 := by
 unfold opE at h
 by_cases h0 : 1 ≤ x.f0 ∧ x.f0 < 18
 ·rw [if_pos h0] at h
  refine ⟨h0.1, h0.2, ?_⟩
  by_cases h1 : plainB (partsOf x.f0.toNat) (usesB x) = true
  ·rw [if_pos h1] at h
   by_cases h2 : last = false ∨ x.f0 = 13 ∨ x.f0 = 15
   ·rw [if_pos h2] at h
    unfold newL
    by_cases h3 : x.f0 = 6
    ·rw [if_pos h3] at h ⊢
     by_cases h4 : locs + 1 < 1048576
     ·omega
     ·rw [if_neg h4] at h; omega
    ·rw [if_neg h3]; omega
   ·rw [if_neg h2] at h; omega
  ·rw [if_neg h1] at h; omega
 ·rw [if_neg h0] at h; omega
theorem may_ask {G : Int} {fs : List S46} {f : S46} {x : S50} (j : Nat) (k : PK) (hj : (partsOf x.f0.toNat)[j]? = some k) (h : (iter (partS G fs f x) j 0).1 = 0) : mayAsk fs x k := by
 have key : x.f0.toNat = 11 → (j = 1 ∨ j = 2) → 0 ≤ x.f4 ∧ x.f4 < fs.length := by
  intro h11 hj12
  have h1 : (iter (partS G fs f x) 1 0).1 = 0 := by
   rcases hj12 with rfl | rfl
   ·exact h
   ·by_cases e : (iter (partS G fs f x) 1 0).1 = 0
    ·exact e
    ·rw [iter_stop e 2 (by omega)] at h; exact h
  have h2 : (iter (partS G fs f x) 1 0).1 = numE 0 fs.length 14 x.f4 := by
   rw [iter_next (q := 0) (l' := 0) rfl]
   show partE G fs f.f1 f.f2 f.f3.length x ((partsOf x.f0.toNat).getD 0 .R) = _
   rw [h11]
   rfl
  rw [h2] at h1
  unfold numE at h1
  by_cases e : 0 ≤ x.f4 ∧ x.f4 < fs.length
  ·exact e
  ·rw [if_neg e] at h1; omega
 generalize hop : x.f0.toNat = op at hj key
 unfold partsOf at hj
 rcases op with _ | _ | _ | _ | _ | _ | _ | _ | _ | _ | _ | _ | _ | _ | _ | _ | _ | _ | op <;> rcases j with _ | _ | _ | j <;> simp at hj <;> subst hj <;> first | trivial | exact key rfl (.inl rfl) | exact key rfl (.inr rfl)
theorem iter_err {step : Nat → Int → Int × Int} {q n : Nat} {l l' er l2 : Int} (hi : iter step q l = (0, l')) (hs : step q l' = (er, l2)) (h0 : er ≠ 0) (hq : q < n) : iter step n l = (er, l2) := by
 have h1 : iter step (q + 1) l = (er, l2) := by rw [iter_next hi, hs]
 rw [iter_stop (q := q + 1) (by rw [h1]; exact h0) n (by omega), h1]
theorem firstE_heads {G : Int} {fs : List S46} {q : Nat} {locs er l2 : Int} (h1 : globE G = 0) (h2 : funcsE fs.length = 0) (hi : iter (headS fs) q 0 = (0, locs)) (hs : headS fs q locs = (er, l2)) (h0 : er ≠ 0) (hq : q < fs.length) : firstE G fs = er := by
 unfold firstE
 rw [if_pos h1, if_pos h2, iter_err hi hs h0 hq, if_neg h0]
theorem firstE_code {G : Int} {fs : List S46} {i : Nat} {L l1 er l2 : Int} (h1 : globE G = 0) (h2 : funcsE fs.length = 0) (hH : iter (headS fs) fs.length 0 = (0, L)) (hi : iter (codeS G fs) i L = (0, l1)) (hs : codeS G fs i l1 = (er, l2)) (h0 : er ≠ 0) (hq : i < fs.length) : firstE G fs = er := by
 unfold firstE
 rw [if_pos h1, if_pos h2, hH, if_pos rfl, iter_err hi hs h0 hq]
theorem firstE_ok {G : Int} {fs : List S46} {L l1 : Int} (h1 : globE G = 0) (h2 : funcsE fs.length = 0) (hH : iter (headS fs) fs.length 0 = (0, L)) (hi : iter (codeS G fs) fs.length L = (0, l1)) : firstE G fs = 0 := by
 unfold firstE
 rw [if_pos h1, if_pos h2, hH, if_pos rfl, hi]
def TAB_31.T2 : Bool × List (List Nat × List Nat) := (true, [([], []), ([], []), ([0, 1], [0, 1]), ([2], [2]), ([3, 1, 0, 1, 2, 3], [3])])
def TAB_31.B2 : List Nat := [0, 0, 3, 7, 15]
theorem TAB_31.tab2 : rtab .any (opsOf Tryd.f31 2) = TAB_31.T2 := by kernel_rfl
theorem TAB_31.bits2 : waitsOk TAB_31.T2.2 TAB_31.B2 = true := by kernel_rfl
def OnlyN (Q : Exit → Act → World → Prop) : Exit → Act → World → Prop
 | .normal, a, w => Q .normal a w
 | _, _, _ => False
theorem wp_only {P : Program} {c : Code} {Q : Exit → Act → World → Prop} {a : Act} {w : World} (h : c.wp P (OnlyN Q) a w) : c.wp P Q a w :=
 Code.wp_mono (fun e a w hq => by cases e <;> first | exact hq | exact hq.elim) h
def LoopA (wo : World) (g : Nat) (G : Int) (A : Option Addr) (n c B : Nat) (locs : Int) (w' : World) : Prop := AskW w' g 78 [] G A n c B locs 0 ∧ Below wo.heap.size wo w' ∧ 0 ≤ locs ∧ locs < 1048576
theorem LoopA.below {wo w' w1 : World} {g : Nat} {G : Int} {A : Option Addr} {n c B : Nat} {locs : Int} (h : LoopA wo g G A n c B locs w') (hb : Below w'.heap.size w' w1) : LoopA wo g G A n c B locs w1 := ⟨h.1.below hb, h.2.1.trans (hb.mono h.2.1.size), h.2.2⟩
theorem partS_at {G : Int} {fs : List S46} {f : S46} {x : S50} {j op m : Nat} {pk : PK} (hP : partsOf x.f0.toNat = partsOf op) (hk : (partsOf op)[j]? = some pk) (hm : m = f.f3.length) (l : Int) : partS G fs f x j l = (partE G fs f.f1 f.f2 m x pk, l) := by
 unfold partS
 rw [hP, List.getD_eq_getElem?_getD, hk, Option.getD_some, hm]
theorem may_at {G : Int} {fs : List S46} {f : S46} {x : S50} {j op : Nat} {pk : PK} (hP : partsOf x.f0.toNat = partsOf op) (hk : (partsOf op)[j]? = some pk) (hi : iter (partS G fs f x) j 0 = (0, 0)) : mayAsk fs x pk := may_ask (G := G) (f := f) j pk (by rw [hP]; exact hk) (by rw [hi])
theorem parts_err {G : Int} {fs : List S46} {f : S46} {x : S50} {j op np : Nat} {er : Int} (hP : partsOf x.f0.toNat = partsOf op) (hn : np = (partsOf op).length) (hi : iter (partS G fs f x) j 0 = (0, 0)) (hs : partS G fs f x j 0 = (er, 0)) (h0 : er ≠ 0) (hj : j < np) : partsE G fs f x = er := by
 unfold partsE
 rw [hP, ← hn, iter_err hi hs h0 hj]
theorem parts_end {G : Int} {fs : List S46} {f : S46} {x : S50} {op np : Nat} (hP : partsOf x.f0.toNat = partsOf op) (hn : np = (partsOf op).length) (hi : iter (partS G fs f x) np 0 = (0, 0)) : partsE G fs f x = 0 := by
 unfold partsE
 rw [hP, ← hn, hi]
def FirstPost (w : World) (E : Int) (e : Ending) (w' : World) : Prop := e = .returned (.int .i64 E) ∧ Below w.heap.size w w'
set_option maxRecDepth 100000 in
set_option maxHeartbeats 16000000 in
theorem first_any (G : Int) (A : Option Addr) (c : Nat) (fs : List S46) (w : World) (hF : k46.C w A fs.length fs) : Calls Tryd.prog 31 #[.agg #[.int .i64 G, .slice A fs.length c]] w fun e w' => FirstPost w (firstE G fs) e w' := by
 have hmf : ∀ (fn : Fn) (first cap : Array Value) (w : World), (Instr.makeFunc fn first cap).run Tryd.prog w = .ok (.func fn first cap) w := fun _ _ _ _ => rfl
 have HB := Az.mk (Below.refl w.heap.size w)
 have HF := Az.mk hF
 have hm : fs.length ≤ 9223372036854775807 := Kd.C_max hF
 obtain ⟨n, hn⟩ : ∃ n, n = fs.length := ⟨_, rfl⟩
 have Hn := Az.mk hn
 rw [← hn] at hm ⊢
 clear hF hn
 go_enter_defers Tryd.func31, Tryd.ntmps31
 go_wp2_with (first | ((with_reducible refine gate_dst (N := 1) rfl ?_); refine box_event ?hg (N := 1) ?hd (cs := #[.int .i64 G, .slice A n c]) (t := 24) ?hr ?_; (case hd => rfl); (case hg => rfl); (case hr => first | (go_simp; done) | (go_simp; rfl)); intro g1 hg w1 hbox hb; have G1 : Az (w.heap.size ≤ g1) := ⟨by have := HB.out.size; omega⟩; replace HB := Az.mk (HB.out.trans (hb.mono HB.out.size)); have BK1 := Az.mk hbox; clear hg hbox hb) | ((with_reducible refine gate_dst (N := 2) rfl ?_); refine box_event ?hg (N := 2) ?hd (cs := #[.int .i64 0]) (t := 27) ?hr ?_; (case hd => rfl); (case hg => rfl); (case hr => first | (go_simp; done) | (go_simp; rfl)); intro g2 hg w2 hbox hb; have G2 : Az (w.heap.size ≤ g2) := ⟨by have := HB.out.size; omega⟩; replace HB := Az.mk (HB.out.trans (hb.mono HB.out.size)); replace BK1 := Az.mk (kZ BK1.out hb); have BK2 := Az.mk hbox; clear hg hbox hb; have hz0 : w2.cell? ⟨g1, 0, none⟩ = some (.int .i64 G) := (bZ BK1.out 0).trans rfl; have hz1 : w2.cell? ⟨g1, 1, none⟩ = some (.slice A n c) := (bZ BK1.out 1).trans rfl))
 refine wp_only ?_
 refine start_ (n := 5) (S := fun w' => w'.cell? ⟨g1, 0, none⟩ = some (.int .i64 G) ∧ w'.cell? ⟨g1, 1, none⟩ = some (.slice A n c)) (ds := []) #[false, false, false, false, false] (by kernel_rfl) rfl rfl ⟨hz0, hz1⟩ (fun hHeld => ?_)
 refine with_tabW TAB_31.tab2 TAB_31.bits2 (fun HT_ HW_ => ?_)
 refine pt 0 (some 12) (v := ?_) (a' := ?_) rfl rfl (take_ofW HT_.out HW_.out (by kernel_rfl)) (fun _ _ _ h => h) (Or.inl ⟨by rfl, ?_⟩) hHeld ?_ ?_
 rotate_left; (rintro w' ⟨s0, s1⟩; go_simp; with_reducible rfl); rotate_left; (simp only [Act.put, pn, i64_w, i32_w]; rfl)
 refine one_ (i := 1) (N := some 13) #[true, true, false, false, false] rfl rfl (one_of HT_.out (by kernel_rfl)) (by decide) (fun K hK => ?_)
 refine goes_ Tryd.func38 (by kernel_rfl) rfl #[] (by rfl) rfl rfl (by simp) ?_
 with_reducible refine (ops_any _).mono ?_
 rintro e_ wo ⟨B, rfl, hO, hGB, hb⟩
 refine ⟨_, rfl, ?_⟩
 have HO := Az.mk hO
 have HBo : Az (Below w2.heap.size w2 wo) := ⟨(below_drew (Below.refl w2.heap.size w2)).trans hb⟩
 clear hO hGB hb
 refine hK.out _ _ ⟨cZ HBo.out hz0, cZ HBo.out hz1⟩ (fun hHeld => ?_)
 clear hK K
 refine norm_ (a' := ?_) ?_ ?_
 rotate_left
 ·show Act.put _ (some 13) _ = _
  simp only [Act.put, pn, i64_w, i32_w]
  rfl
 refine pq 2 (some 14) HT_ rfl rfl (fun _ _ _ h => h) ?_
 refine one_ (i := 3) (N := some 15) #[true, true, true, true, false] rfl rfl (one_of HT_.out (by kernel_rfl)) (by decide) (fun K hK => ?_)
 refine value_ (w1 := ?_) (v := ?_) (by rfl) rfl ?_ ?_
 rotate_left 2
 ·go_simp
  constructor
  ·rfl
  ·rfl
 show K _ (World.alloc wo (Obj.cells #[Value.int IntKind.i64 G, Value.slice A n c, Value.slice (some ⟨B, 0, none⟩) 18 18, Value.int IntKind.i64 0, Value.int IntKind.i64 0] 78))
 refine hK.out _ _ ⟨cZ (lZ (Below.refl _ _) _) (cZ HBo.out hz0), cZ (lZ (Below.refl _ _) _) (cZ HBo.out hz1)⟩ (fun hHeld => ?_)
 clear hK K
 refine norm_ (a' := ?_) ?_ ?_
 rotate_left
 ·show Act.put _ (some 15) _ = _
  simp only [Act.put, pn, i64_w, i32_w]
  rfl
 refine pq 4 (some 3) HT_ rfl rfl (fun _ _ _ h => h) ?_
 refine done_ (done_of HT_.out (by kernel_rfl)) ?_
 clear hHeld HT_ HW_ hz0 hz1
 refine (show OnlyN _ Exit.normal _ _ from ?_)
 unfold OnlyN
 obtain ⟨g, hg⟩ : ∃ g, g = wo.heap.size := ⟨_, rfl⟩
 have HLo : Az (LoopA wo g G A n c B 0 (wo.alloc (.cells #[.int .i64 G, .slice A n c, .slice (some ⟨B, 0, none⟩) 18 18, .int .i64 0, .int .i64 0] 78))) := ⟨by rw [hg]; exact blk_at _, lZ (Below.refl _ _) _, by omega, by omega⟩
 have HG : Az (wo.heap.size ≤ g) := ⟨by omega⟩
 obtain ⟨w3, hw3⟩ : ∃ w3, w3 = wo.alloc (.cells #[.int .i64 G, .slice A n c, .slice (some ⟨B, 0, none⟩) 18 18, .int .i64 0, .int .i64 0] 78) := ⟨_, rfl⟩
 rw [← hw3] at HLo ⊢
 rw [← hg]
 clear hg hw3
 have K1 := Az.mk (kZ BK1.out HBo.out)
 have K2 := Az.mk (kZ BK2.out HBo.out)
 have HBw : Az (Below w.heap.size w wo) := ⟨HB.out.trans (HBo.out.mono HB.out.size)⟩
 clear BK1 BK2 HBo HB
 have hz0 : w3.cell? ⟨g1, 0, none⟩ = some (.int .i64 G) := (bZ (kZ K1.out HLo.out.2.1) 0).trans rfl
 have hz1 : w3.cell? ⟨g1, 1, none⟩ = some (.slice A n c) := (bZ (kZ K1.out HLo.out.2.1) 1).trans rfl
 go_wp2_with fail
 refine (globals_any g G 0 w3 HLo.out.1.c4).mono ?_
 rintro e w' hp
 obtain ⟨hc, hb⟩ := AskPost.cases hp
 have HLn := Az.mk (HLo.out.below hb)
 clear hp
 rcases hc with ⟨h0, rfl⟩ | ⟨h0, rfl⟩
 rotate_left
 ·have HE : Az (firstE G fs = globE G) := ⟨by unfold firstE; rw [if_neg h0]⟩
  have HBn : Az (Below wo.heap.size wo w') := ⟨HLn.out.2.1⟩
  go_wp2_with fail
  refine leaves_cons (f := 57) (args := #[.pointer (some ⟨g2, 0, none⟩)]) (by simp) (by simp [go_sem]) ?_
  refine (catch_stop g2 0 _ 0 w' (kZ K2.out HBn.out)).mono ?_
  rintro e u' w'' ⟨rfl, rfl, hw⟩
  have hcR : w''.cell? ⟨g2, 0, none⟩ = some (.int .i64 (globE G)) := by rw [hw]; exact (bZ ((blk_set (aZ (kZ K2.out HBn.out) _) 0 _).trans rfl) 0).trans rfl
  have HPo : Az (FirstPost w (firstE G fs) (.returned (.int .i64 (globE G))) w'') := ⟨by rw [HE.out], by rw [hw]; exact sZ (HBw.out.trans ((lZ HBn.out _).mono HBw.out.size)) G2.out⟩
  clear hw
  simp [Leaves, settle, results, Tryd.results31, go_sem, hcR]
  exact HPo.out
 have E1 := Az.mk h0
 clear h0 hb HLo hz0 hz1
 have HLo := HLn
 clear HLn
 obtain ⟨w4, rfl⟩ : ∃ w4, w4 = w' := ⟨_, rfl⟩
 have hz1 : w4.cell? ⟨g1, 1, none⟩ = some (.slice A n c) := (bZ (kZ K1.out HLo.out.2.1) 1).trans rfl
 go_wp2_with fail
 refine (funcs_any g n 0 w4 HLo.out.1.c4).mono ?_
 rintro e w' hp
 obtain ⟨hc, hb⟩ := AskPost.cases hp
 have HLn := Az.mk (HLo.out.below hb)
 clear hp
 rcases hc with ⟨h0, rfl⟩ | ⟨h0, rfl⟩
 rotate_left
 ·have HE : Az (firstE G fs = funcsE n) := ⟨by unfold firstE; rw [if_pos E1.out, if_neg (by rw [← Hn.out]; exact h0), ← Hn.out]⟩
  have HBn : Az (Below wo.heap.size wo w') := ⟨HLn.out.2.1⟩
  go_wp2_with fail
  refine leaves_cons (f := 57) (args := #[.pointer (some ⟨g2, 0, none⟩)]) (by simp) (by simp [go_sem]) ?_
  refine (catch_stop g2 0 _ 0 w' (kZ K2.out HBn.out)).mono ?_
  rintro e u' w'' ⟨rfl, rfl, hw⟩
  have hcR : w''.cell? ⟨g2, 0, none⟩ = some (.int .i64 (funcsE n)) := by rw [hw]; exact (bZ ((blk_set (aZ (kZ K2.out HBn.out) _) 0 _).trans rfl) 0).trans rfl
  have HPo : Az (FirstPost w (firstE G fs) (.returned (.int .i64 (funcsE n))) w'') := ⟨by rw [HE.out], by rw [hw]; exact sZ (HBw.out.trans ((lZ HBn.out _).mono HBw.out.size)) G2.out⟩
  clear hw
  simp [Leaves, settle, results, Tryd.results31, go_sem, hcR]
  exact HPo.out
 have E2 := Az.mk h0
 clear h0 hb HLo hz1
 have HLo := HLn
 clear HLn
 obtain ⟨w5, rfl⟩ : ∃ w5, w5 = w' := ⟨_, rfl⟩
 have hz1 : w5.cell? ⟨g1, 1, none⟩ = some (.slice A n c) := (bZ (kZ K1.out HLo.out.2.1) 1).trans rfl
 go_wp2_with fail
 clear hz1
 go_loopw [28] (fun v28 w' => ∃ (q : Nat) (locs : Int), q ≤ n ∧ v28 = .int .i64 (q : Int) ∧ Az (iter (headS fs) q 0 = (0, locs)) ∧ Az (LoopA wo g G A n c B locs w')) (fun i _ => n - (intOf i).toNat)
 case atStart => exact ⟨0, 0, Nat.zero_le _, rfl, ⟨rfl⟩, HLo⟩
 case round =>
  obtain ⟨q, locs, hq, rfl, HI, HL⟩ := hrel
  clear HLo
  have hz1 : wr.cell? ⟨g1, 1, none⟩ = some (.slice A n c) := (bZ (kZ K1.out HL.out.2.1) 1).trans rfl
  by_cases hlt : q < n
  ·have hwp : wrap64 ((q : Int) + 1) = (q : Int) + 1 := wrap_in (by omega) (by omega)
   have q0 : (0 : Int) ≤ (q : Int) := by omega
   have q1 : (q : Int) < (n : Int) := by omega
   have hql : q < fs.length := by rw [← Hn.out]; exact hlt
   obtain ⟨ad, A3, c3, hAd, hy0, hy1, hy2, hy3, hC3⟩ := at46 HF.out q hql rfl
   subst hAd
   have HS : Az (headS fs q locs = (headE locs fs[q].f0 fs[q].f1 fs[q].f2 fs[q].f3.length, locs + fs[q].f2)) := ⟨by unfold headS; rw [getD46 fs q hql]⟩
   obtain ⟨f, hf⟩ : ∃ f, f = fs[q] := ⟨_, rfl⟩
   rw [← hf] at hy0 hy1 hy2 hy3 HS
   clear hf hC3
   have HBr : Az (Below w.heap.size w wr) := ⟨HBw.out.trans (HL.out.2.1.mono HBw.out.size)⟩
   replace hy0 := cZ HBr.out hy0
   replace hy1 := cZ HBr.out hy1
   replace hy2 := cZ HBr.out hy2
   replace hy3 := cZ HBr.out hy3
   have HHd := Az.mk (head_any g (ad.add (q * 4)) 78 [] G (some ad) n c B locs f.f0 f.f1 f.f2 f.f3.length 0 wo wr.drew (below_drew HL.out.2.1) HG.out HL.out.1 HL.out.2.2.1 HL.out.2.2.2 hy0 hy1 hy2)
   obtain ⟨m3, hm3⟩ : ∃ m3, m3 = f.f3.length := ⟨_, rfl⟩
   rw [← hm3] at hy3 HHd HS
   clear hm3 hy0 hy1 hy2
   go_wp2_with fail
   refine wp_tail 12 (by kernel_rfl) (by kernel_rfl) ?_
   simp only [List.take_succ_cons, List.take_zero, List.drop_succ_cons, List.drop_zero]
   repeat still_step
   refine wpStill_nil ?_
   go_wp2_with fail
   refine HHd.out.mono ?_
   rintro e w' ⟨he, hok, hzw, hkp⟩
   obtain ⟨er, her⟩ : ∃ er, er = headE locs f.f0 f.f1 f.f2 m3 := ⟨_, rfl⟩
   rw [← her] at he hok HS
   by_cases h0 : er = 0
   ·rw [if_pos h0] at he
    subst he
    have hb := headE_ok (her.symm.trans h0)
    have HL2 : Az (LoopA wo g G (some ad) n c B (locs + f.f2) w') := ⟨hok h0, hzw, by have := HL.out.2.2; omega, hb.2⟩
    have HI2 : Az (iter (headS fs) (q + 1) 0 = (0, locs + f.f2)) := ⟨by rw [iter_next HI.out, HS.out, h0]⟩
    clear hok hzw hkp hb h0 her hz1 hy3
    go_wp2_with fail
    go_roundw
    case rel => exact ⟨q + 1, locs + f.f2, by omega, by go_num, HI2, HL2⟩
    case measure => simp [intOf]; omega
   ·rw [if_neg h0] at he
    subst he
    clear her hok hkp hz1 hy3
    have HE : Az (firstE G fs = er) := ⟨by exact firstE_heads E1.out (by rw [← Hn.out]; exact E2.out) HI.out HS.out h0 hql⟩
    have HBn : Az (Below wo.heap.size wo w') := ⟨hzw⟩
    go_wp2_with fail
    refine leaves_cons (f := 57) (args := #[.pointer (some ⟨g2, 0, none⟩)]) (by simp) (by simp [go_sem]) ?_
    refine (catch_stop g2 0 _ 0 w' (kZ K2.out HBn.out)).mono ?_
    rintro e u' w'' ⟨rfl, rfl, hw⟩
    have hcR : w''.cell? ⟨g2, 0, none⟩ = some (.int .i64 (er)) := by rw [hw]; exact (bZ ((blk_set (aZ (kZ K2.out HBn.out) _) 0 _).trans rfl) 0).trans rfl
    have HPo : Az (FirstPost w (firstE G fs) (.returned (.int .i64 (er))) w'') := ⟨by rw [HE.out], by rw [hw]; exact sZ (HBw.out.trans ((lZ HBn.out _).mono HBw.out.size)) G2.out⟩
    clear hw
    simp [Leaves, settle, results, Tryd.results31, go_sem, hcR]
    exact HPo.out
  ·obtain rfl : n = q := by omega
   have HI0 : Az (iter (headS fs) fs.length 0 = (0, locs)) := ⟨by rw [← Hn.out]; exact HI.out⟩
   obtain ⟨L0, rfl⟩ : ∃ L0, L0 = locs := ⟨_, rfl⟩
   clear HI hlt hq
   have HLo := HL
   clear HL
   obtain ⟨w6, rfl⟩ : ∃ w6, w6 = wr := ⟨_, rfl⟩
   go_wp2_with fail
   clear hz1
   go_loopw [48] (fun v48 w' => ∃ (q : Nat) (locs : Int), q ≤ n ∧ v48 = .int .i64 (q : Int) ∧ Az (iter (codeS G fs) q L0 = (0, locs)) ∧ Az (LoopA wo g G A n c B locs w')) (fun i _ => n - (intOf i).toNat)
   case atStart => exact ⟨0, L0, Nat.zero_le _, rfl, ⟨rfl⟩, HLo⟩
   case round =>
    obtain ⟨q, locs, hq, rfl, HI, HL⟩ := hrel
    clear HLo
    by_cases hlt : q < n
    ·have hwp : wrap64 ((q : Int) + 1) = (q : Int) + 1 := wrap_in (by omega) (by omega)
     have q0 : (0 : Int) ≤ (q : Int) := by omega
     have q1 : (q : Int) < (n : Int) := by omega
     have hql : q < fs.length := by rw [← Hn.out]; exact hlt
     have hz1 : wr.cell? ⟨g1, 1, none⟩ = some (.slice A n c) := (bZ (kZ K1.out HL.out.2.1) 1).trans rfl
     obtain ⟨ad, A3, c3, hAd, hy0, hy1, hy2, hy3, hC3⟩ := at46 HF.out q hql rfl
     subst hAd
     have HCS : Az (∀ l, codeS G fs q l = iter (instrS G fs fs[q]) fs[q].f3.length l) := ⟨fun l => by unfold codeS; rw [getD46 fs q hql]⟩
     obtain ⟨f, hf⟩ : ∃ f, f = fs[q] := ⟨_, rfl⟩
     rw [← hf] at hy0 hy1 hy2 hy3 hC3 HCS
     clear hf hy0
     have HY := Az.mk (And.intro hy1 (And.intro hy2 (And.intro hy3 hC3)))
     have hmm : f.f3.length ≤ 9223372036854775807 := Kd.C_max hC3
     obtain ⟨m, hm0⟩ : ∃ m, m = f.f3.length := ⟨_, rfl⟩
     have Hm := Az.mk hm0
     rw [← hm0] at hmm hy3
     clear hC3 hy1 hy2 hm0
     have HBr : Az (Below w.heap.size w wr) := ⟨HBw.out.trans (HL.out.2.1.mono HBw.out.size)⟩
     replace hy3 := cZ HBr.out hy3
     go_wp2_with fail
     clear hz1 hy3 HBr
     obtain ⟨w7, rfl⟩ : ∃ w7, w7 = wr := ⟨_, rfl⟩
     obtain ⟨L1, rfl⟩ : ∃ L1, L1 = locs := ⟨_, rfl⟩
     go_loopw [60] (fun v60 w' => ∃ (k : Nat) (locs : Int), k ≤ m ∧ v60 = .int .i64 (k : Int) ∧ Az (iter (instrS G fs f) k L1 = (0, locs)) ∧ Az (LoopA wo g G (some ad) n c B locs w')) (fun i _ => m - (intOf i).toNat)
     case atStart => exact ⟨0, L1, Nat.zero_le _, rfl, ⟨rfl⟩, HL⟩
     case round =>
      obtain ⟨k, locs, hk, rfl, HI2, HL2⟩ := hrel
      clear HL
      by_cases hlt2 : k < m
      ·have hwp2 : wrap64 ((k : Int) + 1) = (k : Int) + 1 := wrap_in (by omega) (by omega)
       have k0 : (0 : Int) ≤ (k : Int) := by omega
       have k1 : (k : Int) < (m : Int) := by omega
       have hkl : k < f.f3.length := by rw [← Hm.out]; exact hlt2
       have hwl : wrap64 ((m : Int) - 1) = (m : Int) - 1 := wrap_in (by omega) (by omega)
       have HBr : Az (Below w.heap.size w wr) := ⟨HBw.out.trans (HL2.out.2.1.mono HBw.out.size)⟩
       obtain ⟨hy1, hy2, hy3, hC3⟩ := HY.out
       obtain ⟨ad2, A5, c5, A6, c6, hAd2, hx, h5, h6⟩ := at50 hC3 k hkl rfl
       subst hAd2
       rw [← Hm.out] at hy3
       replace hy3 := cZ HBr.out hy3
       have HY3 := Az.mk hy3
       clear hC3
       have HIS : Az (instrS G fs f k locs = (if opE locs f.f3[k] (k + 1 == f.f3.length) = 0 then partsE G fs f f.f3[k] else opE locs f.f3[k] (k + 1 == f.f3.length), locs + newL f.f3[k])) := ⟨by unfold instrS; rw [getD50 f.f3 k hkl]⟩
       obtain ⟨x, hxx⟩ : ∃ x, x = f.f3[k] := ⟨_, rfl⟩
       rw [← hxx] at hx h5 h6 HIS
       obtain ⟨lb, hlb⟩ : ∃ lb, lb = (k + 1 == f.f3.length) := ⟨_, rfl⟩
       have hlast : ((k : Int) == (m : Int) - 1) = lb := by rw [hlb, Hm.out, Bool.eq_iff_iff, beq_iff_eq, beq_iff_eq]; omega
       rw [← hlb] at HIS
       clear hxx hlb
       have HX := Az.mk (And.intro hx (And.intro h5 h6))
       clear hx h5 h6
       have HOp := Az.mk (op_any g (ad2.add (k * 7)) 78 [] G (some ad) n c B locs 0 x A5 c5 A6 c6 lb wo wr HL2.out.2.1 HG.out HL2.out.1 HL2.out.2.2.1 HL2.out.2.2.2 (HO.out.below HL2.out.2.1) (HX.out.1.below HBr.out))
       clear hy1 hy2
       go_wp2_with fail
       refine HOp.out.mono ?_
       rintro e w' ⟨he, hok, hzw, hkp⟩
       obtain ⟨er, her⟩ : ∃ er, er = opE locs x lb := ⟨_, rfl⟩
       rw [← her] at he hok HIS
       have HLr := Az.mk HL2.out.2.2
       clear hy3 hlast hwl HOp
       by_cases h0 : er = 0
       ·rw [if_pos h0] at he HIS
        subst he
        obtain ⟨o1, o2, o3, o4⟩ := opE_ok HLr.out (her.symm.trans h0)
        have HL3 : Az (LoopA wo g G (some ad) n c B (locs + newL x) w') := ⟨hok h0, hzw, o3, o4⟩
        clear hok hkp h0 her hzw HL2 o3 o4
        obtain ⟨op, hop⟩ : ∃ op : Nat, x.f0 = (op : Int) := ⟨x.f0.toNat, by omega⟩
        obtain ⟨b, hrow, hR⟩ := HO.out op (by omega) (by omega)
        have HPt : Az (partsOf x.f0.toNat = partsOf op) := ⟨by rw [hop, Int.toNat_natCast]⟩
        have HR := Az.mk hR
        have HBx : Az (Below w.heap.size w w') := ⟨HBw.out.trans (HL3.out.2.1.mono HBw.out.size)⟩
        have hx0 := cZ HBx.out HX.out.1.1
        rw [hop] at hx0 o1 o2
        have h2 := HL3.out.1.c2
        replace hrow := cZ HL3.out.2.1 hrow
        have hnp := parts_le op
        obtain ⟨np, hnp0⟩ : ∃ np, np = (partsOf op).length := ⟨_, rfl⟩
        have Hnp := Az.mk hnp0
        rw [← hnp0] at hrow hnp
        clear hR hnp0 hop HBr
        obtain ⟨w8, rfl⟩ : ∃ w8, w8 = w' := ⟨_, rfl⟩
        go_wp2_with fail
        go_quiet (fail)
        have HL4 : Az (LoopA wo g G (some ad) n c B (locs + newL x) (w8.drewN nq)) := ⟨HL3.out.below (pZ (Below.refl _ _) nq)⟩
        clear hx0 h2 hrow HL3 HBx o1 o2
        obtain ⟨w9, rfl⟩ : ∃ w9, w9 = w8.drewN nq := ⟨_, rfl⟩
        obtain ⟨L2, hL2⟩ : ∃ L2, L2 = locs + newL x := ⟨_, rfl⟩
        have HL2e := Az.mk hL2
        rw [← hL2] at HL4
        clear hL2
        go_wp2_with fail
        have HW1 := Az.mk hwp
        have HW2 := Az.mk hwp2
        clear hwp hwp2
        go_loopw [91] (fun v91 w' => ∃ j : Nat, j ≤ np ∧ v91 = .int .i64 (j : Int) ∧ Az (iter (partS G fs f x) j 0 = (0, 0)) ∧ Az (LoopA wo g G (some ad) n c B L2 w')) (fun i _ => np - (intOf i).toNat)
        case atStart => exact ⟨0, Nat.zero_le _, rfl, ⟨rfl⟩, HL4⟩
        case round =>
         obtain ⟨j, hj, rfl, HI3, HLp⟩ := hrel
         clear HL4
         by_cases hlt3 : j < np
         ·have j0 : (0 : Int) ≤ (j : Int) := Int.natCast_nonneg j
          have j1 : (j : Int) < (np : Int) := Int.ofNat_lt.mpr hlt3
          have hwp3 : wrap64 ((j : Int) + 1) = (j : Int) + 1 := wrap_in (by omega) (by omega)
          have hjl : j < (partsOf op).length := by rw [← Hnp.out]; exact hlt3
          obtain ⟨pk, hpk⟩ : ∃ pk, (partsOf op)[j]? = some pk := ⟨_, List.getElem?_eq_getElem hjl⟩
          obtain ⟨c0, c1, c2, c3, hp, z0, z1, z2, z3⟩ := HR.out j pk hpk
          have HPS := Az.mk (partS_at (G := G) (fs := fs) HPt.out hpk Hm.out 0)
          have HMay := Az.mk (may_at HPt.out hpk HI3.out)
          clear hpk
          have hc0 := mask_is hp
          subst hc0
          obtain ⟨k1, a1, k2, a2, k3, a3, rfl, rfl, rfl⟩ := fns_is hp
          have HP := Az.mk hp
          clear hp
          replace z0 := cZ HLp.out.2.1 z0
          replace z1 := cZ HLp.out.2.1 z1
          replace z2 := cZ HLp.out.2.1 z2
          replace z3 := cZ HLp.out.2.1 z3
          have HB : Az (Below w.heap.size w wr) := ⟨HBw.out.trans (HLp.out.2.1.mono HBw.out.size)⟩
          have HYr : Az (wr.cell? ⟨(ad.add (q * 4)).block, (ad.add (q * 4)).off + 3, none⟩ = some (.slice (some ad2) m c3)) := ⟨by have := HY.out.2.2.1; rw [← Hm.out] at this; exact cZ HB.out this⟩
          have HPA := Az.mk (ask_part pk (.int .i64 (maskOf pk)) (.func (Fn.func k1) #[] a1) (.func (Fn.func k2) #[] a2) (.func (Fn.func k3) #[] a3) g (ad.add (q * 4)) (ad2.add (k * 7)) 78 [] G (some ad) c B L2 0 f.f1 f.f2 m fs x A5 c5 A6 c6)
          go_wp2_with fail
          obtain ⟨w10, hw10⟩ : ∃ w10, w10 = wr.alloc (.cells #[.int .i64 (maskOf pk), .func (Fn.func k1) #[] a1, .func (Fn.func k2) #[] a2, .func (Fn.func k3) #[] a3] 69) := ⟨_, rfl⟩
          obtain ⟨g10, hg10⟩ : ∃ g10, g10 = wr.heap.size := ⟨_, rfl⟩
          rw [← hw10, ← hg10]
          have HBx := Az.mk (show Below wr.heap.size wr w10 by rw [hw10]; exact lZ (Below.refl _ _) _)
          have hb1 : w10.cell? ⟨g10, 1, none⟩ = some (.func (Fn.func k1) #[] a1) := by rw [hw10, hg10]; exact (bZ (blk_at _) 1).trans rfl
          clear hw10 hg10
          have HB' := Az.mk (HB.out.trans (HBx.out.mono HB.out.size))
          have HLp' := Az.mk (HLp.out.below HBx.out)
          have hy3 := cZ HBx.out HYr.out
          clear HB HLp HYr HBx
          have HB := HB'
          have HLp := HLp'
          clear HB' HLp'
          have HBd : Az (Below w.heap.size w w10.drew) := ⟨below_drew HB.out⟩
          have HLd := Az.mk (HLp.out.below (below_drew (Below.refl _ _)))
          obtain ⟨fn, cap, hc1, hen, hcall⟩ := HPA.out w10.drew (PartIs.below (HLd.out.2.1) HP.out) (Hn.out ▸ HLd.out.1) ((heads_of HF.out).below HBd.out) (cZ HBd.out HY.out.1) (cZ HBd.out HY.out.2.1) (HX.out.1.below HBd.out) (Kd.C_below HX.out.2.1 HBd.out) (Kd.C_below HX.out.2.2 HBd.out) HMay.out
          injection hc1 with hc1 _ hc2
          injection hc1 with hc1
          subst hc1 hc2
          obtain ⟨e2, he2⟩ : ∃ e2, e2 = partE G fs f.f1 f.f2 m x pk := ⟨_, rfl⟩
          rw [← he2] at hcall HPS
          clear he2
          have HCl := Az.mk hcall
          clear hcall z0 z1 z2 z3
          unfold Enters at hen
          refine wp_tail 10 (by kernel_rfl) (by kernel_rfl) ?_
          simp only [List.take_succ_cons, List.take_zero, List.drop_succ_cons, List.drop_zero]
          repeat still_step
          refine wpStill_nil ?_
          go_wp2_with fail
          refine HCl.out.mono ?_
          rintro e w' hp
          obtain ⟨hc, hb⟩ := AskPost.cases hp
          have HLn := Az.mk (HLd.out.below hb)
          clear hp hb hb1 hy3 hen HCl
          rcases hc with ⟨h0, rfl⟩ | ⟨h0, rfl⟩
          ·have HI3n : Az (iter (partS G fs f x) (j + 1) 0 = (0, 0)) := ⟨by rw [iter_next HI3.out, HPS.out, h0]⟩
           clear h0
           go_wp2_with fail
           go_roundw
           case rel => exact ⟨j + 1, by omega, by go_num, HI3n, HLn⟩
           case measure => simp [intOf]; omega
          ·have HPe := Az.mk (parts_err HPt.out Hnp.out HI3.out HPS.out h0 hlt3)
           have HE : Az (firstE G fs = e2) := ⟨by exact firstE_code E1.out (by rw [← Hn.out]; exact E2.out) HI0.out HI.out ((HCS.out L1).trans (iter_err HI2.out (by rw [← HPe.out]; exact HIS.out) h0 hkl)) h0 hql⟩
           have HBn : Az (Below wo.heap.size wo w') := ⟨HLn.out.2.1⟩
           go_wp2_with fail
           refine leaves_cons (f := 57) (args := #[.pointer (some ⟨g2, 0, none⟩)]) (by simp) (by simp [go_sem]) ?_
           refine (catch_stop g2 0 _ 0 w' (kZ K2.out HBn.out)).mono ?_
           rintro e u' w'' ⟨rfl, rfl, hw⟩
           have hcR : w''.cell? ⟨g2, 0, none⟩ = some (.int .i64 (e2)) := by rw [hw]; exact (bZ ((blk_set (aZ (kZ K2.out HBn.out) _) 0 _).trans rfl) 0).trans rfl
           have HPo : Az (FirstPost w (firstE G fs) (.returned (.int .i64 (e2))) w'') := ⟨by rw [HE.out], by rw [hw]; exact sZ (HBw.out.trans ((lZ HBn.out _).mono HBw.out.size)) G2.out⟩
           clear hw
           simp [Leaves, settle, results, Tryd.results31, go_sem, hcR]
           exact HPo.out
         ·obtain rfl : np = j := by omega
          have HI2n : Az (iter (instrS G fs f) (k + 1) L1 = (0, L2)) := ⟨by rw [iter_next HI2.out, HIS.out, parts_end HPt.out Hnp.out HI3.out, HL2e.out]⟩
          clear hlt3 hj
          have hwp2 := HW2.out
          go_wp2_with fail
          go_roundw
          case rel => exact ⟨k + 1, L2, by omega, by go_num, HI2n, HLp⟩
          case measure => simp [intOf]; omega
       ·rw [if_neg h0] at he HIS
        subst he
        clear her hok hkp
        have HE : Az (firstE G fs = er) := ⟨by exact firstE_code E1.out (by rw [← Hn.out]; exact E2.out) HI0.out HI.out ((HCS.out L1).trans (iter_err HI2.out HIS.out h0 hkl)) h0 hql⟩
        have HBn : Az (Below wo.heap.size wo w') := ⟨hzw⟩
        go_wp2_with fail
        refine leaves_cons (f := 57) (args := #[.pointer (some ⟨g2, 0, none⟩)]) (by simp) (by simp [go_sem]) ?_
        refine (catch_stop g2 0 _ 0 w' (kZ K2.out HBn.out)).mono ?_
        rintro e u' w'' ⟨rfl, rfl, hw⟩
        have hcR : w''.cell? ⟨g2, 0, none⟩ = some (.int .i64 (er)) := by rw [hw]; exact (bZ ((blk_set (aZ (kZ K2.out HBn.out) _) 0 _).trans rfl) 0).trans rfl
        have HPo : Az (FirstPost w (firstE G fs) (.returned (.int .i64 (er))) w'') := ⟨by rw [HE.out], by rw [hw]; exact sZ (HBw.out.trans ((lZ HBn.out _).mono HBw.out.size)) G2.out⟩
        clear hw
        simp [Leaves, settle, results, Tryd.results31, go_sem, hcR]
        exact HPo.out
      ·have hk2 : m = k := by omega
       subst hk2
       have HIn : Az (iter (codeS G fs) (q + 1) L0 = (0, locs)) := ⟨by rw [iter_next HI.out, HCS.out, ← Hm.out, HI2.out]⟩
       clear hlt2 hk
       go_wp2_with fail
       go_roundw
       case rel => exact ⟨q + 1, locs, by omega, by go_num, HIn, HL2⟩
       case measure => simp [intOf]; omega
    ·obtain rfl : n = q := by omega
     have HE : Az (firstE G fs = 0) := ⟨firstE_ok E1.out (by rw [← Hn.out]; exact E2.out) HI0.out (by rw [← Hn.out]; exact HI.out)⟩
     have hz2 : wr.cell? ⟨g2, 0, none⟩ = some (.int .i64 0) := (bZ (kZ K2.out HL.out.2.1) 0).trans rfl
     have hf2 : wr.frozen? ⟨g2, 0, none⟩ = false := fZ (kZ K2.out HL.out.2.1) 0
     clear hlt hq
     go_wp2_with fail
     have hS := (blk_set (kZ K2.out HL.out.2.1) 0 (.int .i64 0)).trans rfl
     clear hz2 hf2
     refine leaves_cons (f := 57) (args := #[.pointer (some ⟨g2, 0, none⟩)]) (by simp) (by simp [go_sem]) ?_
     refine (catch_idle g2 _).mono ?_
     rintro e u' w'' ⟨rfl, rfl, rfl⟩
     have hcR : ((wr.setCell ⟨g2, 0, none⟩ (.int .i64 0)).alloc (.cells #[.int .i64 0, .int .i64 0] 74)).cell? ⟨g2, 0, none⟩ = some (.int .i64 0) := (bZ (aZ hS _) 0).trans rfl
     have HPo : Az (FirstPost w (firstE G fs) (.returned (.int .i64 0)) ((wr.setCell ⟨g2, 0, none⟩ (.int .i64 0)).alloc (.cells #[.int .i64 0, .int .i64 0] 74))) := ⟨by rw [HE.out], lZ (sZ (HBw.out.trans (HL.out.2.1.mono HBw.out.size)) G2.out) _⟩
     clear hS
     simp [Leaves, settle, results, Tryd.results31, go_sem, hcR]
     exact HPo.out
def code_first.f (a0_0 : Int) (l0_1 : List S46) : Option Int := some (firstE a0_0 l0_1)
theorem code_first.calls (a0_0 : Int) (A0_1 : Option Addr) (c0_1 : Nat) (l0_1 : List (S46)) (r : Int) (w : World) (hr0_1 : Kd.C k46 w A0_1 l0_1.length l0_1) (hc0_1 : l0_1.length ≤ c0_1) (h : code_first.f a0_0 l0_1 = some r) :
  Calls Tryd.prog 31 #[.agg #[.int .i64 a0_0, .slice A0_1 l0_1.length c0_1]] w fun e w' => e = .returned (.int .i64 r) ∧ Below w.heap.size w w' := by
 obtain rfl := Option.some.inj h
 exact first_any a0_0 A0_1 c0_1 l0_1 w hr0_1
def code_Check.f (a0_0 : Int) (l0_1 : List S46) : Option Int := some (firstE a0_0 l0_1)
theorem code_Check.calls (a0_0 : Int) (A0_1 : Option Addr) (c0_1 : Nat) (l0_1 : List (S46)) (r : Int) (w : World) (hr0_1 : Kd.C k46 w A0_1 l0_1.length l0_1) (hc0_1 : l0_1.length ≤ c0_1) (h : code_Check.f a0_0 l0_1 = some r) :
  Calls Tryd.prog 12 #[.agg #[.int .i64 a0_0, .slice A0_1 l0_1.length c0_1]] w fun e w' => e = .returned (.int .i64 r) ∧ Below w.heap.size w w' := by
 obtain rfl := Option.some.inj h
 have HB := Az.mk (Below.refl w.heap.size w)
 have HF := Az.mk hr0_1
 clear hr0_1 hc0_1 h
 obtain ⟨n, hn⟩ : ∃ n, n = l0_1.length := ⟨_, rfl⟩
 have Hn := Az.mk hn
 rw [← hn] at HF ⊢
 clear hn
 go_enter Tryd.func12, Tryd.ntmps12
 go_wp2_with ((with_reducible refine gate_dst (N := 1) rfl ?_); refine box_event ?hg (N := 1) ?hd (cs := #[.int .i64 a0_0, .slice A0_1 n c0_1]) (t := 24) ?hr ?_; (case hd => rfl); (case hg => rfl); (case hr => first | (go_simp; done) | (go_simp; rfl)); intro g1 hg w1 hbox hb; have G1 : Az (w.heap.size ≤ g1) := ⟨by have := HB.out.size; omega⟩; replace HB := Az.mk (HB.out.trans (hb.mono HB.out.size)); have BK1 := Az.mk hbox; clear hg hbox hb; have hz0 : w1.cell? ⟨g1, 0, none⟩ = some (.int .i64 a0_0) := (bZ BK1.out 0).trans rfl; have hz1 : w1.cell? ⟨g1, 1, none⟩ = some (.slice A0_1 n c0_1) := (bZ BK1.out 1).trans rfl)
 refine (show Calls Tryd.prog 31 #[.agg #[.int .i64 a0_0, .slice A0_1 n c0_1]] w1 _ from Hn.out ▸ first_any a0_0 A0_1 c0_1 l0_1 w1 (Kd.C_below (Hn.out ▸ HF.out) HB.out)).mono ?_
 rintro e w' ⟨rfl, hb⟩
 have HBn := Az.mk (HB.out.trans (hb.mono HB.out.size))
 clear hb
 go_wp2_with fail
 go_ret
 exact ⟨rfl, HBn.out⟩
end Go.Proofs.YteonppgdmhakoaaDoor.PC
namespace Go.Proofs.YteonppgdmhakoaaDoor.PC
open Go.RowKit Go.Proofs.YteonppgdmhakoaaDoorW.PrintWords Go.Proofs.YteonppgdmhakoaaDoorW.PrintLast Go.Proofs.YteonppgdmhakoaaDoorW.PrintMore
attribute [local go_sem] max2_int min2_int max_two min_two max_three min_three max_four min_four
set_option linter.unusedVariables false
set_option linter.unusedSimpArgs false
mutual
def code_Locations.l0 : Nat → Int → List (S46) → Int → Int → Option (Int)
 | 0, _, _, _, _ => none
 | k + 1, x3, x12, x13, x14 => if x14 < x13 then (if 0 ≤ x14 then (if x14 < (x12.length : Int) then (code_Locations.l1 k (wrap64 (x3 + ((rd_T46 x12 x14).f2))) x12 x13 x14 ((rd_T46 x12 x14).f3) (((rd_T46 x12 x14).f3).length : Int) 0) else (none)) else (none)) else (some x3)
def code_Locations.l1 : Nat → Int → List (S46) → Int → Int → List (S50) → Int → Int → Option (Int)
 | 0, _, _, _, _, _, _, _ => none
 | k + 1, x3, x12, x13, x14, x23, x24, x25 => if x25 < x24 then (if 0 ≤ x25 then (if x25 < (x23.length : Int) then (if ((rd_T50 x23 x25).f0) = 6 then (code_Locations.l1 k (wrap64 (x3 + 1)) x12 x13 x14 x23 x24 (wrap64 (x25 + 1))) else (code_Locations.l1 k x3 x12 x13 x14 x23 x24 (wrap64 (x25 + 1)))) else (none)) else (none)) else (code_Locations.l0 k x3 x12 x13 (wrap64 (x14 + 1)))
end
def code_Locations.f (k : Nat) (a0_0 : Int) (l0_1 : List (S46)) : Option (Int) := (code_first.f a0_0 l0_1).bind fun t102 => (if t102 = 0 then (code_Locations.l0 k 1 l0_1 (l0_1.length : Int) 0) else (some 0))
theorem code_Locations.mono_l : ∀ k, (∀ y0 y1 y2 y3, LeO (code_Locations.l0 k y0 y1 y2 y3) (code_Locations.l0 (k + 1) y0 y1 y2 y3)) ∧ (∀ y0 y1 y2 y3 y4 y5 y6, LeO (code_Locations.l1 k y0 y1 y2 y3 y4 y5 y6) (code_Locations.l1 (k + 1) y0 y1 y2 y3 y4 y5 y6))
 | 0 => ⟨fun _ _ _ _ r h => by simp [code_Locations.l0] at h, fun _ _ _ _ _ _ _ r h => by simp [code_Locations.l1] at h⟩
 | k + 1 => by
  obtain ⟨ih0, ih1⟩ := code_Locations.mono_l k
  refine ⟨?_, ?_⟩
  ·intro y0 y1 y2 y3
   unfold code_Locations.l0
   repeat' first
   | (with_reducible exact ih0 _ _ _ _)
   | (with_reducible exact ih1 _ _ _ _ _ _ _)
   | (with_reducible exact LeO.refl _)
   | (with_reducible exact LeO.none _)
   | (with_reducible refine LeO.ite ?_ ?_)
   | (with_reducible refine LeO.bind ?_ (fun _ => ?_))
   | exact ih0 _ _ _ _
   | exact ih1 _ _ _ _ _ _ _
   | exact LeO.none _
   | refine LeO.ite ?_ ?_
   | refine LeO.bind ?_ (fun _ => ?_)
  ·intro y0 y1 y2 y3 y4 y5 y6
   unfold code_Locations.l1
   repeat' first
   | (with_reducible exact ih0 _ _ _ _)
   | (with_reducible exact ih1 _ _ _ _ _ _ _)
   | (with_reducible exact LeO.refl _)
   | (with_reducible exact LeO.none _)
   | (with_reducible refine LeO.ite ?_ ?_)
   | (with_reducible refine LeO.bind ?_ (fun _ => ?_))
   | exact ih0 _ _ _ _
   | exact ih1 _ _ _ _ _ _ _
   | exact LeO.none _
   | refine LeO.ite ?_ ?_
   | refine LeO.bind ?_ (fun _ => ?_)
theorem code_Locations.mono : ∀ a0 a1 k, LeO (code_Locations.f k a0 a1) (code_Locations.f (k + 1) a0 a1) := by
 intro a0 a1 k
 obtain ⟨ih0, ih1⟩ := code_Locations.mono_l k
 unfold code_Locations.f
 repeat' first
   | (with_reducible exact ih0 _ _ _ _)
   | (with_reducible exact ih1 _ _ _ _ _ _ _)
   | (with_reducible exact LeO.refl _)
   | (with_reducible exact LeO.none _)
   | (with_reducible refine LeO.ite ?_ ?_)
   | (with_reducible refine LeO.bind ?_ (fun _ => ?_))
   | exact ih0 _ _ _ _
   | exact ih1 _ _ _ _ _ _ _
   | exact LeO.none _
   | refine LeO.ite ?_ ?_
   | refine LeO.bind ?_ (fun _ => ?_)
set_option maxHeartbeats 8000000 in
set_option maxRecDepth 100000 in
theorem code_Locations.calls (k : Nat) (a0_0 : Int) (A0_1 : Option Addr) (c0_1 : Nat) (l0_1 : List (S46)) (r : Int) (w : World) (hr0_1 : Kd.C k46 w A0_1 l0_1.length l0_1) (hc0_1 : l0_1.length ≤ c0_1) (h : code_Locations.f k a0_0 l0_1 = some r) :
  Calls Tryd.prog 13 #[.agg #[.int .i64 a0_0, .slice A0_1 l0_1.length c0_1]] w fun e w' => e = .returned (.int .i64 r) ∧ Below w.heap.size w w' := by
 have hu24 := Tryd.underlying24
 have hu46 := Tryd.underlying46
 have hu50 := Tryd.underlying50
 have HR0_1 := Az.mk hr0_1
 have HC0_1 := Az.mk hc0_1
 clear hr0_1 hc0_1
 have HB := Az.mk (Below.refl w.heap.size w)
 have H : ((code_first.f a0_0 l0_1).bind fun t102 => (if t102 = 0 then (code_Locations.l0 k 1 l0_1 (l0_1.length : Int) 0) else (some 0))) = some r := h
 clear h
 replace H := Option.bind_eq_some_iff.mp H
 obtain ⟨t102, A20, H⟩ := H
 replace H : (if t102 = 0 then (code_Locations.l0 k 1 l0_1 (l0_1.length : Int) 0) else (some 0)) = some r := H
 have A2 := Az.mk A20
 clear A20
 by_cases c3 : t102 = 0
 ·rw [if_pos c3] at H
  have c3b0 : (t102 == 0) = true := beq_iff_eq.mpr c3
  have c3b1 : (t102 != 0) = false := bne_eq_false_iff_eq.mpr c3
  clear c3
  have H' := Az.mk H
  clear H
  go_enter Tryd.func13, Tryd.ntmps13
  go_wp2_with (first | ((with_reducible refine gate_dst (N := 1) rfl ?_); refine box_event ?hg (N := 1) ?hd (cs := #[.int .i64 a0_0, .slice A0_1 l0_1.length c0_1]) (t := 24) ?hr ?_; (case hd => rfl); (case hg => rfl); (case hr => first | (go_simp; done) | (go_simp; rfl)); intro gb101 hg w4 hbox hb; have n0_ := Az.mk (tZ (by repeat (first | (with_reducible first | exact HB.out | apply lZ | apply pZ | apply dZ) | exact HB.out)) hb); have n1_ := Az.mk (hbox); have n2_ := Az.mk ((by rw [hg]; exact (zZ (by repeat (first | (with_reducible first | exact HB.out | apply lZ | apply pZ | apply dZ) | exact HB.out))) : w.heap.size ≤ gb101)); have n3_ := Az.mk ((by rw [hg]; exact (zZ (by repeat (first | (with_reducible first | exact HB.out | apply lZ | apply pZ | apply dZ) | exact HB.out))) : w.heap.size ≤ gb101)); clear HB; have HB := n0_; have BK101 := n1_; have GW101 := n2_; have GE101 := n3_; clear n0_ n1_ n2_ n3_; clear hb hbox hg; have hcz5_0 : w4.cell? ⟨gb101, 0, none⟩ = some (.int .i64 a0_0) := (bZ BK101.out 0).trans rfl; have hcz5_1 : w4.cell? ⟨gb101, 1, none⟩ = some (.slice A0_1 l0_1.length c0_1) := (bZ BK101.out 1).trans rfl; have hfz5_0 := fZ BK101.out 0; have hfz5_1 := fZ BK101.out 1) | ((with_reducible refine gate_callee (f := 31) rfl ?_); refine goesL_ (some 9) rfl rfl Tryd.func31 (by kernel_rfl) rfl #[.agg #[.int .i64 a0_0, .slice A0_1 l0_1.length c0_1]] rfl (by (try simp only [List.map_toArray, List.map_cons, List.map_nil]); first | done | rfl | (simp only [List.length_drop, List.length_take]; rfl)) ?_; (with_reducible refine (code_first.calls a0_0 _ _ l0_1 t102 _ ?side1 ?side2 A2.out).mono ?_); (case side1 => repeat (first | exact (Kd.C_below HR0_1.out HB.out) | (with_reducible refine Kd.C_alloc ?_ _) | (with_reducible refine Kd.C_drewN ?_ _) | (with_reducible refine Kd.C_drew ?_))); (case side2 => exact HC0_1.out); rintro e w6 ⟨rfl, hb⟩; refine ⟨_, rfl, ?_⟩; replace BK101 := Az.mk (kZ (g := gb101) (o := .cells #[.int .i64 a0_0, .slice A0_1 l0_1.length c0_1] 24 (0, 0)) (by (with_reducible repeat (first | refine blk_drewN ?_ _ | refine wZ ?_ | refine aZ ?_ _)); exact BK101.out) hb); replace HB := Az.mk (tZ (by repeat (first | (with_reducible first | exact HB.out | apply lZ | apply pZ | apply dZ | refine sZ ?_ GE101.out) | exact HB.out)) hb); (try clear hb); (try clear hb2); (try clear hk); (try clear hi); have hcz7_0 : w6.cell? ⟨gb101, 0, none⟩ = some (.int .i64 a0_0) := (bZ BK101.out 0).trans rfl; have hcz7_1 : w6.cell? ⟨gb101, 1, none⟩ = some (.slice A0_1 l0_1.length c0_1) := (bZ BK101.out 1).trans rfl; have hfz7_0 := fZ BK101.out 0; have hfz7_1 := fZ BK101.out 1))
  go_loopg [3, 14] k (fun kq v3 v14 w' => ∃ (x3_1 : Int) (x14_1 : Int), v3 = .int .i64 x3_1 ∧ v14 = .int .i64 x14_1 ∧ Az (code_Locations.l0 kq x3_1 l0_1 (l0_1.length : Int) x14_1 = some r) ∧ Az (kq ≤ k) ∧ Az (w'.heap[gb101]? = some (.cells #[.int .i64 a0_0, (.slice A0_1 l0_1.length c0_1)] 24 (0, 0))) ∧ Az (Below w.heap.size w w'))
  case atStart => exact ⟨(1), (0), (by first | rfl | (simp; done) | (simp [*]; done)), (by first | rfl | (simp; done) | (simp [*]; done)), H', ⟨Nat.le_refl _⟩, ⟨by (with_reducible repeat (first | refine blk_drewN ?_ _ | refine wZ ?_ | refine aZ ?_ _)); exact BK101.out⟩, ⟨by repeat (first | (with_reducible first | exact HB.out | apply lZ | apply pZ | apply dZ | refine sZ ?_ GE101.out) | exact HB.out)⟩⟩
  case round =>
   clear H'
   try clear c1
   try clear p2
   try clear c3
   try clear c3b0
   try clear c3b1
   try clear hcz5_0
   try clear hcz5_1
   try clear hcz7_0
   try clear hcz7_1
   try clear hfz5_0
   try clear hfz5_1
   try clear hfz7_0
   try clear hfz7_1
   obtain ⟨x3_1, x14_1, rfl, rfl, HA, HK1, BK101, HB⟩ := hrel
   cases gk with
   | zero => exact absurd HA.out (by simp [code_Locations.l0])
   | succ k1 =>
    have H := HA.out
    clear HA
    simp only [code_Locations.l0] at H
    by_cases c8 : x14_1 < (l0_1.length : Int)
    ·rw [if_pos c8] at H
     have c8b0 : decide (x14_1 < (l0_1.length : Int)) = true := decide_eq_true c8
     clear c8
     by_cases c9 : 0 ≤ x14_1
     ·rw [if_pos c9] at H
      have c9b0 : decide (0 ≤ x14_1) = true := decide_eq_true c9
      clear c9
      by_cases c10 : x14_1 < (l0_1.length : Int)
      ·rw [if_pos c10] at H
       have c10b0 : decide (x14_1 < (l0_1.length : Int)) = true := decide_eq_true c10
       clear c10
       have H' := Az.mk H
       clear H
       have p103 : 0 ≤ (x14_1 : Int) := of_decide_eq_true (by first | (with_reducible assumption) | assumption)
       have q103 : x14_1 < (l0_1.length : Int) := of_decide_eq_true (by first | (with_reducible assumption) | assumption)
       obtain ⟨ad103, A103_3, c103_3, e103, hx103_0, hx103_1, hx103_2, hx103_3, hl103_3, hi103_3⟩ := at_T46 HR0_1.out x14_1 p103 q103
       cases e103
       replace hx103_0 := (HB.out.cell (World.block_lt_of_cell? w _ hx103_0)).trans hx103_0
       replace hx103_1 := (HB.out.cell (World.block_lt_of_cell? w _ hx103_1)).trans hx103_1
       replace hx103_2 := (HB.out.cell (World.block_lt_of_cell? w _ hx103_2)).trans hx103_2
       replace hx103_3 := (HB.out.cell (World.block_lt_of_cell? w _ hx103_3)).trans hx103_3
       have HR103_3 := Az.mk hi103_3
       have HC103_3 := Az.mk hl103_3
       clear hi103_3 hl103_3
       replace p103 := eq_true p103
       replace q103 := eq_true q103
       go_wp2_with (first | ((with_reducible refine gate_dst (N := 5) rfl ?_); refine box_event ?hg (N := 5) ?hd (cs := #[.int .i64 0, .int .i64 0, .int .i64 0, .slice none 0 0]) (t := 46) ?hr ?_; (case hd => rfl); (case hg => rfl); (case hr => first | (go_simp; done) | (go_simp; rfl)); intro gb104 hg w11 hbox hb; have n0_ := Az.mk (kZ (g := gb101) (o := .cells #[.int .i64 a0_0, .slice (some ad103) l0_1.length c0_1] 24 (0, 0)) (by (with_reducible repeat (first | refine blk_drewN ?_ _ | refine wZ ?_ | refine aZ ?_ _)); exact BK101.out) hb); have n1_ := Az.mk (tZ (by repeat (first | (with_reducible first | exact HB.out | apply lZ | apply pZ | apply dZ | refine sZ ?_ GE101.out) | exact HB.out)) hb); have n2_ := Az.mk (hbox); have n3_ := Az.mk ((by rw [hg]; exact (zZ (by repeat (first | (with_reducible first | exact HB.out | apply lZ | apply pZ | apply dZ | refine sZ ?_ GE101.out) | exact HB.out))) : w.heap.size ≤ gb104)); have n4_ := Az.mk ((by rw [hg]; exact (zZ (by repeat (first | (with_reducible first | exact HB.out | apply lZ | apply pZ | apply dZ | refine sZ ?_ GE101.out) | exact HB.out))) : w.heap.size ≤ gb104)); have n5_ := Az.mk ((by rw [hg]; exact Nat.ne_of_lt (blk_lt (g := gb101) (o := .cells #[.int .i64 a0_0, .slice (some ad103) l0_1.length c0_1] 24 (0, 0)) (by (with_reducible repeat (first | refine blk_drewN ?_ _ | refine wZ ?_ | refine aZ ?_ _)); exact BK101.out)) : gb101 ≠ gb104)); have n6_ := Az.mk ((by rw [hg]; exact Nat.ne_of_gt (blk_lt (g := gb101) (o := .cells #[.int .i64 a0_0, .slice (some ad103) l0_1.length c0_1] 24 (0, 0)) (by (with_reducible repeat (first | refine blk_drewN ?_ _ | refine wZ ?_ | refine aZ ?_ _)); exact BK101.out)) : gb104 ≠ gb101)); clear BK101; clear HB; have BK101 := n0_; have HB := n1_; have BK104 := n2_; have GW104 := n3_; have GE104 := n4_; have NB101_104 := n5_; have NB104_101 := n6_; clear n0_ n1_ n2_ n3_ n4_ n5_ n6_; clear hb hbox hg; have hnb12 := NB104_101.out; have hnc12 := NB101_104.out; have hcz13_0 : w11.cell? ⟨gb104, 0, none⟩ = some (.int .i64 0) := (bZ BK104.out 0).trans rfl; have hcz13_1 : w11.cell? ⟨gb104, 1, none⟩ = some (.int .i64 0) := (bZ BK104.out 1).trans rfl; have hcz13_2 : w11.cell? ⟨gb104, 2, none⟩ = some (.int .i64 0) := (bZ BK104.out 2).trans rfl; have hcz13_3 : w11.cell? ⟨gb104, 3, none⟩ = some (.slice none 0 0) := (bZ BK104.out 3).trans rfl; have hfz13_0 := fZ BK104.out 0; have hfz13_1 := fZ BK104.out 1; have hfz13_2 := fZ BK104.out 2; have hfz13_3 := fZ BK104.out 3))
       go_loopg [3, 25] k1 (fun kq v3 v25 w' => ∃ (x3_2 : Int) (x25_2 : Int), v3 = .int .i64 x3_2 ∧ v25 = .int .i64 x25_2 ∧ Az (code_Locations.l1 kq x3_2 l0_1 (l0_1.length : Int) x14_1 ((rd_T46 l0_1 x14_1).f3) (((rd_T46 l0_1 x14_1).f3).length : Int) x25_2 = some r) ∧ Az (kq ≤ k1) ∧ Az (w'.heap[gb101]? = some (.cells #[.int .i64 a0_0, (.slice (some ad103) l0_1.length c0_1)] 24 (0, 0))) ∧ Az (w'.heap[gb104]? = some (.cells #[.int .i64 ((rd_T46 l0_1 x14_1).f0), .int .i64 ((rd_T46 l0_1 x14_1).f1), .int .i64 ((rd_T46 l0_1 x14_1).f2), (.slice A103_3 ((rd_T46 l0_1 x14_1).f3).length c103_3)] 46 (0, 0))) ∧ Az (Below w.heap.size w w'))
       case atStart => exact ⟨(wrap64 (x3_1 + ((rd_T46 l0_1 x14_1).f2))), (0), (by first | rfl | (simp; done) | (simp [*]; done)), (by first | rfl | (simp; done) | (simp [*]; done)), H', ⟨Nat.le_refl _⟩, ⟨by (with_reducible repeat (first | refine blk_drewN ?_ _ | refine wZ ?_ | refine aZ ?_ _)); refine blk_far ?_ NB101_104.out _; (with_reducible repeat (first | refine blk_drewN ?_ _ | refine wZ ?_ | refine aZ ?_ _)); refine blk_far ?_ NB101_104.out _; (with_reducible repeat (first | refine blk_drewN ?_ _ | refine wZ ?_ | refine aZ ?_ _)); refine blk_far ?_ NB101_104.out _; (with_reducible repeat (first | refine blk_drewN ?_ _ | refine wZ ?_ | refine aZ ?_ _)); refine blk_far ?_ NB101_104.out _; (with_reducible repeat (first | refine blk_drewN ?_ _ | refine wZ ?_ | refine aZ ?_ _)); exact BK101.out⟩, ⟨by (with_reducible repeat (first | refine blk_drewN ?_ _ | refine wZ ?_ | refine aZ ?_ _)); refine blk_put (cs := #[.int .i64 ((rd_T46 l0_1 x14_1).f0), .int .i64 ((rd_T46 l0_1 x14_1).f1), .int .i64 ((rd_T46 l0_1 x14_1).f2), .slice none 0 0]) ?_ 3 _ rfl; (with_reducible repeat (first | refine blk_drewN ?_ _ | refine wZ ?_ | refine aZ ?_ _)); refine blk_put (cs := #[.int .i64 ((rd_T46 l0_1 x14_1).f0), .int .i64 ((rd_T46 l0_1 x14_1).f1), .int .i64 0, .slice none 0 0]) ?_ 2 _ rfl; (with_reducible repeat (first | refine blk_drewN ?_ _ | refine wZ ?_ | refine aZ ?_ _)); refine blk_put (cs := #[.int .i64 ((rd_T46 l0_1 x14_1).f0), .int .i64 0, .int .i64 0, .slice none 0 0]) ?_ 1 _ rfl; (with_reducible repeat (first | refine blk_drewN ?_ _ | refine wZ ?_ | refine aZ ?_ _)); refine blk_put (cs := #[.int .i64 0, .int .i64 0, .int .i64 0, .slice none 0 0]) ?_ 0 _ rfl; (with_reducible repeat (first | refine blk_drewN ?_ _ | refine wZ ?_ | refine aZ ?_ _)); exact BK104.out⟩, ⟨by repeat (first | (with_reducible first | exact HB.out | apply lZ | apply pZ | apply dZ | refine sZ ?_ GE101.out | refine sZ ?_ GE104.out) | exact HB.out)⟩⟩
       case round =>
        clear H'
        try clear c1
        try clear p1
        try clear q1
        try clear hx1
        try clear p2
        try clear c3
        try clear c3b0
        try clear c3b1
        try clear p6
        try clear c8
        try clear c8b0
        try clear c9
        try clear c9b0
        try clear c10
        try clear c10b0
        try clear p10
        try clear q10
        try clear hx10
        try clear c12
        try clear c13
        try clear hcz13_0
        try clear hcz13_1
        try clear hcz13_2
        try clear hcz13_3
        try clear hcz5_0
        try clear hcz5_1
        try clear hcz7_0
        try clear hcz7_1
        try clear hfz13_0
        try clear hfz13_1
        try clear hfz13_2
        try clear hfz13_3
        try clear hfz5_0
        try clear hfz5_1
        try clear hfz7_0
        try clear hfz7_1
        try clear hx103_0
        try clear hx103_1
        try clear hx103_2
        try clear hx103_3
        try clear p103
        try clear p2
        try clear q103
        obtain ⟨x3_2, x25_2, rfl, rfl, HA, HK2, BK101, BK104, HB⟩ := hrel
        cases gk with
        | zero => exact absurd HA.out (by simp [code_Locations.l1])
        | succ k2 =>
         have H := HA.out
         clear HA
         simp only [code_Locations.l1] at H
         by_cases c14 : x25_2 < (((rd_T46 l0_1 x14_1).f3).length : Int)
         ·rw [if_pos c14] at H
          have c14b0 : decide (x25_2 < (((rd_T46 l0_1 x14_1).f3).length : Int)) = true := decide_eq_true c14
          clear c14
          by_cases c15 : 0 ≤ x25_2
          ·rw [if_pos c15] at H
           have c15b0 : decide (0 ≤ x25_2) = true := decide_eq_true c15
           clear c15
           by_cases c16 : x25_2 < (((rd_T46 l0_1 x14_1).f3).length : Int)
           ·rw [if_pos c16] at H
            have c16b0 : decide (x25_2 < (((rd_T46 l0_1 x14_1).f3).length : Int)) = true := decide_eq_true c16
            clear c16
            by_cases c17 : ((rd_T50 ((rd_T46 l0_1 x14_1).f3) x25_2).f0) = 6
            ·rw [if_pos c17] at H
             have c17b0 : (((rd_T50 ((rd_T46 l0_1 x14_1).f3) x25_2).f0) == 6) = true := beq_iff_eq.mpr c17
             have c17b1 : (((rd_T50 ((rd_T46 l0_1 x14_1).f3) x25_2).f0) != 6) = false := bne_eq_false_iff_eq.mpr c17
             clear c17
             have H' := Az.mk H
             clear H
             have p105 : 0 ≤ (x25_2 : Int) := of_decide_eq_true (by first | (with_reducible assumption) | assumption)
             have q105 : x25_2 < (((rd_T46 l0_1 x14_1).f3).length : Int) := of_decide_eq_true (by first | (with_reducible assumption) | assumption)
             obtain ⟨ad105, A105_5, c105_5, A105_6, c105_6, e105, hx105_0, hx105_1, hx105_2, hx105_3, hx105_4, hx105_5, hx105_6, hl105_5, hi105_5, hl105_6, hi105_6⟩ := at_T50 HR103_3.out x25_2 p105 q105
             cases e105
             replace hx105_0 := (HB.out.cell (World.block_lt_of_cell? w _ hx105_0)).trans hx105_0
             replace hx105_1 := (HB.out.cell (World.block_lt_of_cell? w _ hx105_1)).trans hx105_1
             replace hx105_2 := (HB.out.cell (World.block_lt_of_cell? w _ hx105_2)).trans hx105_2
             replace hx105_3 := (HB.out.cell (World.block_lt_of_cell? w _ hx105_3)).trans hx105_3
             replace hx105_4 := (HB.out.cell (World.block_lt_of_cell? w _ hx105_4)).trans hx105_4
             replace hx105_5 := (HB.out.cell (World.block_lt_of_cell? w _ hx105_5)).trans hx105_5
             replace hx105_6 := (HB.out.cell (World.block_lt_of_cell? w _ hx105_6)).trans hx105_6
             have HR105_5 := Az.mk hi105_5
             have HC105_5 := Az.mk hl105_5
             clear hi105_5 hl105_5
             have HR105_6 := Az.mk hi105_6
             have HC105_6 := Az.mk hl105_6
             clear hi105_6 hl105_6
             replace p105 := eq_true p105
             replace q105 := eq_true q105
             go_wp2_with (first | ((with_reducible refine gate_dst (N := 7) rfl ?_); refine box_event ?hg (N := 7) ?hd (cs := #[.int .i64 0, .int .i64 0, .int .i64 0, .int .i64 0, .int .i64 0, .slice none 0 0, .slice none 0 0]) (t := 50) ?hr ?_; (case hd => rfl); (case hg => rfl); (case hr => first | (go_simp; done) | (go_simp; rfl)); intro gb106 hg w18 hbox hb; have n0_ := Az.mk (kZ (g := gb101) (o := .cells #[.int .i64 a0_0, .slice (some ad103) l0_1.length c0_1] 24 (0, 0)) (by (with_reducible repeat (first | refine blk_drewN ?_ _ | refine wZ ?_ | refine aZ ?_ _)); exact BK101.out) hb); have n1_ := Az.mk (kZ (g := gb104) (o := .cells #[.int .i64 ((rd_T46 l0_1 x14_1).f0), .int .i64 ((rd_T46 l0_1 x14_1).f1), .int .i64 ((rd_T46 l0_1 x14_1).f2), .slice (some ad105) ((rd_T46 l0_1 x14_1).f3).length c103_3] 46 (0, 0)) (by (with_reducible repeat (first | refine blk_drewN ?_ _ | refine wZ ?_ | refine aZ ?_ _)); exact BK104.out) hb); have n2_ := Az.mk (tZ (by repeat (first | (with_reducible first | exact HB.out | apply lZ | apply pZ | apply dZ | refine sZ ?_ GE101.out | refine sZ ?_ GE104.out) | exact HB.out)) hb); have n3_ := Az.mk (hbox); have n4_ := Az.mk ((by rw [hg]; exact (zZ (by repeat (first | (with_reducible first | exact HB.out | apply lZ | apply pZ | apply dZ | refine sZ ?_ GE101.out | refine sZ ?_ GE104.out) | exact HB.out))) : w.heap.size ≤ gb106)); have n5_ := Az.mk ((by rw [hg]; exact (zZ (by repeat (first | (with_reducible first | exact HB.out | apply lZ | apply pZ | apply dZ | refine sZ ?_ GE101.out | refine sZ ?_ GE104.out) | exact HB.out))) : w.heap.size ≤ gb106)); have n6_ := Az.mk ((by rw [hg]; exact Nat.ne_of_lt (blk_lt (g := gb101) (o := .cells #[.int .i64 a0_0, .slice (some ad103) l0_1.length c0_1] 24 (0, 0)) (by (with_reducible repeat (first | refine blk_drewN ?_ _ | refine wZ ?_ | refine aZ ?_ _)); exact BK101.out)) : gb101 ≠ gb106)); have n7_ := Az.mk ((by rw [hg]; exact Nat.ne_of_gt (blk_lt (g := gb101) (o := .cells #[.int .i64 a0_0, .slice (some ad103) l0_1.length c0_1] 24 (0, 0)) (by (with_reducible repeat (first | refine blk_drewN ?_ _ | refine wZ ?_ | refine aZ ?_ _)); exact BK101.out)) : gb106 ≠ gb101)); have n8_ := Az.mk ((by rw [hg]; exact Nat.ne_of_lt (blk_lt (g := gb104) (o := .cells #[.int .i64 ((rd_T46 l0_1 x14_1).f0), .int .i64 ((rd_T46 l0_1 x14_1).f1), .int .i64 ((rd_T46 l0_1 x14_1).f2), .slice (some ad105) ((rd_T46 l0_1 x14_1).f3).length c103_3] 46 (0, 0)) (by (with_reducible repeat (first | refine blk_drewN ?_ _ | refine wZ ?_ | refine aZ ?_ _)); exact BK104.out)) : gb104 ≠ gb106)); have n9_ := Az.mk ((by rw [hg]; exact Nat.ne_of_gt (blk_lt (g := gb104) (o := .cells #[.int .i64 ((rd_T46 l0_1 x14_1).f0), .int .i64 ((rd_T46 l0_1 x14_1).f1), .int .i64 ((rd_T46 l0_1 x14_1).f2), .slice (some ad105) ((rd_T46 l0_1 x14_1).f3).length c103_3] 46 (0, 0)) (by (with_reducible repeat (first | refine blk_drewN ?_ _ | refine wZ ?_ | refine aZ ?_ _)); exact BK104.out)) : gb106 ≠ gb104)); clear BK101; clear BK104; clear HB; have BK101 := n0_; have BK104 := n1_; have HB := n2_; have BK106 := n3_; have GW106 := n4_; have GE106 := n5_; have NB101_106 := n6_; have NB106_101 := n7_; have NB104_106 := n8_; have NB106_104 := n9_; clear n0_ n1_ n2_ n3_ n4_ n5_ n6_ n7_ n8_ n9_; clear hb hbox hg; have hnb19 := NB106_101.out; have hnc19 := NB101_106.out; have hnb20 := NB106_104.out; have hnc20 := NB104_106.out; have hcz21_0 : w18.cell? ⟨gb106, 0, none⟩ = some (.int .i64 0) := (bZ BK106.out 0).trans rfl; have hcz21_1 : w18.cell? ⟨gb106, 1, none⟩ = some (.int .i64 0) := (bZ BK106.out 1).trans rfl; have hcz21_2 : w18.cell? ⟨gb106, 2, none⟩ = some (.int .i64 0) := (bZ BK106.out 2).trans rfl; have hcz21_3 : w18.cell? ⟨gb106, 3, none⟩ = some (.int .i64 0) := (bZ BK106.out 3).trans rfl; have hcz21_4 : w18.cell? ⟨gb106, 4, none⟩ = some (.int .i64 0) := (bZ BK106.out 4).trans rfl; have hcz21_5 : w18.cell? ⟨gb106, 5, none⟩ = some (.slice none 0 0) := (bZ BK106.out 5).trans rfl; have hcz21_6 : w18.cell? ⟨gb106, 6, none⟩ = some (.slice none 0 0) := (bZ BK106.out 6).trans rfl; have hfz21_0 := fZ BK106.out 0; have hfz21_1 := fZ BK106.out 1; have hfz21_2 := fZ BK106.out 2; have hfz21_3 := fZ BK106.out 3; have hfz21_4 := fZ BK106.out 4; have hfz21_5 := fZ BK106.out 5; have hfz21_6 := fZ BK106.out 6))
             go_roundg k2
             case measure => have := HK1.out; have := HK2.out; omega
             case rel => exact ⟨(wrap64 (x3_2 + 1)), (wrap64 (x25_2 + 1)), (by first | rfl | (simp; done) | (simp [*]; done)), (by first | rfl | (simp; done) | (simp [*]; done)), H', ⟨by have := HK1.out; have := HK2.out; omega⟩, ⟨by (with_reducible repeat (first | refine blk_drewN ?_ _ | refine wZ ?_ | refine aZ ?_ _)); refine blk_far ?_ NB101_106.out _; (with_reducible repeat (first | refine blk_drewN ?_ _ | refine wZ ?_ | refine aZ ?_ _)); refine blk_far ?_ NB101_106.out _; (with_reducible repeat (first | refine blk_drewN ?_ _ | refine wZ ?_ | refine aZ ?_ _)); refine blk_far ?_ NB101_106.out _; (with_reducible repeat (first | refine blk_drewN ?_ _ | refine wZ ?_ | refine aZ ?_ _)); refine blk_far ?_ NB101_106.out _; (with_reducible repeat (first | refine blk_drewN ?_ _ | refine wZ ?_ | refine aZ ?_ _)); refine blk_far ?_ NB101_106.out _; (with_reducible repeat (first | refine blk_drewN ?_ _ | refine wZ ?_ | refine aZ ?_ _)); refine blk_far ?_ NB101_106.out _; (with_reducible repeat (first | refine blk_drewN ?_ _ | refine wZ ?_ | refine aZ ?_ _)); refine blk_far ?_ NB101_106.out _; (with_reducible repeat (first | refine blk_drewN ?_ _ | refine wZ ?_ | refine aZ ?_ _)); exact BK101.out⟩, ⟨by (with_reducible repeat (first | refine blk_drewN ?_ _ | refine wZ ?_ | refine aZ ?_ _)); refine blk_far ?_ NB104_106.out _; (with_reducible repeat (first | refine blk_drewN ?_ _ | refine wZ ?_ | refine aZ ?_ _)); refine blk_far ?_ NB104_106.out _; (with_reducible repeat (first | refine blk_drewN ?_ _ | refine wZ ?_ | refine aZ ?_ _)); refine blk_far ?_ NB104_106.out _; (with_reducible repeat (first | refine blk_drewN ?_ _ | refine wZ ?_ | refine aZ ?_ _)); refine blk_far ?_ NB104_106.out _; (with_reducible repeat (first | refine blk_drewN ?_ _ | refine wZ ?_ | refine aZ ?_ _)); refine blk_far ?_ NB104_106.out _; (with_reducible repeat (first | refine blk_drewN ?_ _ | refine wZ ?_ | refine aZ ?_ _)); refine blk_far ?_ NB104_106.out _; (with_reducible repeat (first | refine blk_drewN ?_ _ | refine wZ ?_ | refine aZ ?_ _)); refine blk_far ?_ NB104_106.out _; (with_reducible repeat (first | refine blk_drewN ?_ _ | refine wZ ?_ | refine aZ ?_ _)); exact BK104.out⟩, ⟨by repeat (first | (with_reducible first | exact HB.out | apply lZ | apply pZ | apply dZ | refine sZ ?_ GE101.out | refine sZ ?_ GE104.out | refine sZ ?_ GE106.out) | exact HB.out)⟩⟩
            ·rw [if_neg c17] at H
             have c17b0 : (((rd_T50 ((rd_T46 l0_1 x14_1).f3) x25_2).f0) == 6) = false := beq_eq_false_iff_ne.mpr c17
             have c17b1 : (((rd_T50 ((rd_T46 l0_1 x14_1).f3) x25_2).f0) != 6) = true := bne_iff_ne.mpr c17
             have H' := Az.mk H
             clear H
             have p105 : 0 ≤ (x25_2 : Int) := of_decide_eq_true (by first | (with_reducible assumption) | assumption)
             have q105 : x25_2 < (((rd_T46 l0_1 x14_1).f3).length : Int) := of_decide_eq_true (by first | (with_reducible assumption) | assumption)
             obtain ⟨ad105, A105_5, c105_5, A105_6, c105_6, e105, hx105_0, hx105_1, hx105_2, hx105_3, hx105_4, hx105_5, hx105_6, hl105_5, hi105_5, hl105_6, hi105_6⟩ := at_T50 HR103_3.out x25_2 p105 q105
             cases e105
             replace hx105_0 := (HB.out.cell (World.block_lt_of_cell? w _ hx105_0)).trans hx105_0
             replace hx105_1 := (HB.out.cell (World.block_lt_of_cell? w _ hx105_1)).trans hx105_1
             replace hx105_2 := (HB.out.cell (World.block_lt_of_cell? w _ hx105_2)).trans hx105_2
             replace hx105_3 := (HB.out.cell (World.block_lt_of_cell? w _ hx105_3)).trans hx105_3
             replace hx105_4 := (HB.out.cell (World.block_lt_of_cell? w _ hx105_4)).trans hx105_4
             replace hx105_5 := (HB.out.cell (World.block_lt_of_cell? w _ hx105_5)).trans hx105_5
             replace hx105_6 := (HB.out.cell (World.block_lt_of_cell? w _ hx105_6)).trans hx105_6
             have HR105_5 := Az.mk hi105_5
             have HC105_5 := Az.mk hl105_5
             clear hi105_5 hl105_5
             have HR105_6 := Az.mk hi105_6
             have HC105_6 := Az.mk hl105_6
             clear hi105_6 hl105_6
             replace p105 := eq_true p105
             replace q105 := eq_true q105
             go_wp2_with (first | ((with_reducible refine gate_dst (N := 7) rfl ?_); refine box_event ?hg (N := 7) ?hd (cs := #[.int .i64 0, .int .i64 0, .int .i64 0, .int .i64 0, .int .i64 0, .slice none 0 0, .slice none 0 0]) (t := 50) ?hr ?_; (case hd => rfl); (case hg => rfl); (case hr => first | (go_simp; done) | (go_simp; rfl)); intro gb106 hg w22 hbox hb; have n0_ := Az.mk (kZ (g := gb101) (o := .cells #[.int .i64 a0_0, .slice (some ad103) l0_1.length c0_1] 24 (0, 0)) (by (with_reducible repeat (first | refine blk_drewN ?_ _ | refine wZ ?_ | refine aZ ?_ _)); exact BK101.out) hb); have n1_ := Az.mk (kZ (g := gb104) (o := .cells #[.int .i64 ((rd_T46 l0_1 x14_1).f0), .int .i64 ((rd_T46 l0_1 x14_1).f1), .int .i64 ((rd_T46 l0_1 x14_1).f2), .slice (some ad105) ((rd_T46 l0_1 x14_1).f3).length c103_3] 46 (0, 0)) (by (with_reducible repeat (first | refine blk_drewN ?_ _ | refine wZ ?_ | refine aZ ?_ _)); exact BK104.out) hb); have n2_ := Az.mk (tZ (by repeat (first | (with_reducible first | exact HB.out | apply lZ | apply pZ | apply dZ | refine sZ ?_ GE101.out | refine sZ ?_ GE104.out) | exact HB.out)) hb); have n3_ := Az.mk (hbox); have n4_ := Az.mk ((by rw [hg]; exact (zZ (by repeat (first | (with_reducible first | exact HB.out | apply lZ | apply pZ | apply dZ | refine sZ ?_ GE101.out | refine sZ ?_ GE104.out) | exact HB.out))) : w.heap.size ≤ gb106)); have n5_ := Az.mk ((by rw [hg]; exact (zZ (by repeat (first | (with_reducible first | exact HB.out | apply lZ | apply pZ | apply dZ | refine sZ ?_ GE101.out | refine sZ ?_ GE104.out) | exact HB.out))) : w.heap.size ≤ gb106)); have n6_ := Az.mk ((by rw [hg]; exact Nat.ne_of_lt (blk_lt (g := gb101) (o := .cells #[.int .i64 a0_0, .slice (some ad103) l0_1.length c0_1] 24 (0, 0)) (by (with_reducible repeat (first | refine blk_drewN ?_ _ | refine wZ ?_ | refine aZ ?_ _)); exact BK101.out)) : gb101 ≠ gb106)); have n7_ := Az.mk ((by rw [hg]; exact Nat.ne_of_gt (blk_lt (g := gb101) (o := .cells #[.int .i64 a0_0, .slice (some ad103) l0_1.length c0_1] 24 (0, 0)) (by (with_reducible repeat (first | refine blk_drewN ?_ _ | refine wZ ?_ | refine aZ ?_ _)); exact BK101.out)) : gb106 ≠ gb101)); have n8_ := Az.mk ((by rw [hg]; exact Nat.ne_of_lt (blk_lt (g := gb104) (o := .cells #[.int .i64 ((rd_T46 l0_1 x14_1).f0), .int .i64 ((rd_T46 l0_1 x14_1).f1), .int .i64 ((rd_T46 l0_1 x14_1).f2), .slice (some ad105) ((rd_T46 l0_1 x14_1).f3).length c103_3] 46 (0, 0)) (by (with_reducible repeat (first | refine blk_drewN ?_ _ | refine wZ ?_ | refine aZ ?_ _)); exact BK104.out)) : gb104 ≠ gb106)); have n9_ := Az.mk ((by rw [hg]; exact Nat.ne_of_gt (blk_lt (g := gb104) (o := .cells #[.int .i64 ((rd_T46 l0_1 x14_1).f0), .int .i64 ((rd_T46 l0_1 x14_1).f1), .int .i64 ((rd_T46 l0_1 x14_1).f2), .slice (some ad105) ((rd_T46 l0_1 x14_1).f3).length c103_3] 46 (0, 0)) (by (with_reducible repeat (first | refine blk_drewN ?_ _ | refine wZ ?_ | refine aZ ?_ _)); exact BK104.out)) : gb106 ≠ gb104)); clear BK101; clear BK104; clear HB; have BK101 := n0_; have BK104 := n1_; have HB := n2_; have BK106 := n3_; have GW106 := n4_; have GE106 := n5_; have NB101_106 := n6_; have NB106_101 := n7_; have NB104_106 := n8_; have NB106_104 := n9_; clear n0_ n1_ n2_ n3_ n4_ n5_ n6_ n7_ n8_ n9_; clear hb hbox hg; have hnb23 := NB106_101.out; have hnc23 := NB101_106.out; have hnb24 := NB106_104.out; have hnc24 := NB104_106.out; have hcz25_0 : w22.cell? ⟨gb106, 0, none⟩ = some (.int .i64 0) := (bZ BK106.out 0).trans rfl; have hcz25_1 : w22.cell? ⟨gb106, 1, none⟩ = some (.int .i64 0) := (bZ BK106.out 1).trans rfl; have hcz25_2 : w22.cell? ⟨gb106, 2, none⟩ = some (.int .i64 0) := (bZ BK106.out 2).trans rfl; have hcz25_3 : w22.cell? ⟨gb106, 3, none⟩ = some (.int .i64 0) := (bZ BK106.out 3).trans rfl; have hcz25_4 : w22.cell? ⟨gb106, 4, none⟩ = some (.int .i64 0) := (bZ BK106.out 4).trans rfl; have hcz25_5 : w22.cell? ⟨gb106, 5, none⟩ = some (.slice none 0 0) := (bZ BK106.out 5).trans rfl; have hcz25_6 : w22.cell? ⟨gb106, 6, none⟩ = some (.slice none 0 0) := (bZ BK106.out 6).trans rfl; have hfz25_0 := fZ BK106.out 0; have hfz25_1 := fZ BK106.out 1; have hfz25_2 := fZ BK106.out 2; have hfz25_3 := fZ BK106.out 3; have hfz25_4 := fZ BK106.out 4; have hfz25_5 := fZ BK106.out 5; have hfz25_6 := fZ BK106.out 6))
             go_roundg k2
             case measure => have := HK1.out; have := HK2.out; omega
             case rel => exact ⟨(x3_2), (wrap64 (x25_2 + 1)), (by first | rfl | (simp; done) | (simp [*]; done)), (by first | rfl | (simp; done) | (simp [*]; done)), H', ⟨by have := HK1.out; have := HK2.out; omega⟩, ⟨by (with_reducible repeat (first | refine blk_drewN ?_ _ | refine wZ ?_ | refine aZ ?_ _)); refine blk_far ?_ NB101_106.out _; (with_reducible repeat (first | refine blk_drewN ?_ _ | refine wZ ?_ | refine aZ ?_ _)); refine blk_far ?_ NB101_106.out _; (with_reducible repeat (first | refine blk_drewN ?_ _ | refine wZ ?_ | refine aZ ?_ _)); refine blk_far ?_ NB101_106.out _; (with_reducible repeat (first | refine blk_drewN ?_ _ | refine wZ ?_ | refine aZ ?_ _)); refine blk_far ?_ NB101_106.out _; (with_reducible repeat (first | refine blk_drewN ?_ _ | refine wZ ?_ | refine aZ ?_ _)); refine blk_far ?_ NB101_106.out _; (with_reducible repeat (first | refine blk_drewN ?_ _ | refine wZ ?_ | refine aZ ?_ _)); refine blk_far ?_ NB101_106.out _; (with_reducible repeat (first | refine blk_drewN ?_ _ | refine wZ ?_ | refine aZ ?_ _)); refine blk_far ?_ NB101_106.out _; (with_reducible repeat (first | refine blk_drewN ?_ _ | refine wZ ?_ | refine aZ ?_ _)); exact BK101.out⟩, ⟨by (with_reducible repeat (first | refine blk_drewN ?_ _ | refine wZ ?_ | refine aZ ?_ _)); refine blk_far ?_ NB104_106.out _; (with_reducible repeat (first | refine blk_drewN ?_ _ | refine wZ ?_ | refine aZ ?_ _)); refine blk_far ?_ NB104_106.out _; (with_reducible repeat (first | refine blk_drewN ?_ _ | refine wZ ?_ | refine aZ ?_ _)); refine blk_far ?_ NB104_106.out _; (with_reducible repeat (first | refine blk_drewN ?_ _ | refine wZ ?_ | refine aZ ?_ _)); refine blk_far ?_ NB104_106.out _; (with_reducible repeat (first | refine blk_drewN ?_ _ | refine wZ ?_ | refine aZ ?_ _)); refine blk_far ?_ NB104_106.out _; (with_reducible repeat (first | refine blk_drewN ?_ _ | refine wZ ?_ | refine aZ ?_ _)); refine blk_far ?_ NB104_106.out _; (with_reducible repeat (first | refine blk_drewN ?_ _ | refine wZ ?_ | refine aZ ?_ _)); refine blk_far ?_ NB104_106.out _; (with_reducible repeat (first | refine blk_drewN ?_ _ | refine wZ ?_ | refine aZ ?_ _)); exact BK104.out⟩, ⟨by repeat (first | (with_reducible first | exact HB.out | apply lZ | apply pZ | apply dZ | refine sZ ?_ GE101.out | refine sZ ?_ GE104.out | refine sZ ?_ GE106.out) | exact HB.out)⟩⟩
           ·rw [if_neg c16] at H
            exact absurd H (by simp)
          ·rw [if_neg c15] at H
           exact absurd H (by simp)
         ·rw [if_neg c14] at H
          have c14b0 : decide (x25_2 < (((rd_T46 l0_1 x14_1).f3).length : Int)) = false := decide_eq_false c14
          clear c14
          have H' := Az.mk H
          clear H
          go_wp2
          go_roundg k2
          case measure => have := HK1.out; have := HK2.out; omega
          case rel => exact ⟨(x3_2), (wrap64 (x14_1 + 1)), (by first | rfl | (simp; done) | (simp [*]; done)), (by first | rfl | (simp; done) | (simp [*]; done)), H', ⟨by have := HK1.out; have := HK2.out; omega⟩, ⟨by (with_reducible repeat (first | refine blk_drewN ?_ _ | refine wZ ?_ | refine aZ ?_ _)); exact BK101.out⟩, ⟨by repeat (first | (with_reducible first | exact HB.out | apply lZ | apply pZ | apply dZ | refine sZ ?_ GE101.out | refine sZ ?_ GE104.out) | exact HB.out)⟩⟩
      ·rw [if_neg c10] at H
       exact absurd H (by simp)
     ·rw [if_neg c9] at H
      exact absurd H (by simp)
    ·rw [if_neg c8] at H
     have c8b0 : decide (x14_1 < (l0_1.length : Int)) = false := decide_eq_false c8
     clear c8
     obtain rfl := Option.some.inj H
     go_wp2
     go_ret
     exact ⟨by first | rfl | (simp [errW_none, errW_some] <;> rfl) | (simp [*, errW_none, errW_some] <;> rfl), by repeat (first | (with_reducible first | exact HB.out | apply lZ | apply pZ | apply dZ | refine sZ ?_ GE101.out) | exact HB.out)⟩
 ·rw [if_neg c3] at H
  have c3b0 : (t102 == 0) = false := beq_eq_false_iff_ne.mpr c3
  have c3b1 : (t102 != 0) = true := bne_iff_ne.mpr c3
  obtain rfl := Option.some.inj H
  go_enter Tryd.func13, Tryd.ntmps13
  go_wp2_with (first | ((with_reducible refine gate_dst (N := 1) rfl ?_); refine box_event ?hg (N := 1) ?hd (cs := #[.int .i64 a0_0, .slice A0_1 l0_1.length c0_1]) (t := 24) ?hr ?_; (case hd => rfl); (case hg => rfl); (case hr => first | (go_simp; done) | (go_simp; rfl)); intro gb101 hg w26 hbox hb; have n0_ := Az.mk (tZ (by repeat (first | (with_reducible first | exact HB.out | apply lZ | apply pZ | apply dZ) | exact HB.out)) hb); have n1_ := Az.mk (hbox); have n2_ := Az.mk ((by rw [hg]; exact (zZ (by repeat (first | (with_reducible first | exact HB.out | apply lZ | apply pZ | apply dZ) | exact HB.out))) : w.heap.size ≤ gb101)); have n3_ := Az.mk ((by rw [hg]; exact (zZ (by repeat (first | (with_reducible first | exact HB.out | apply lZ | apply pZ | apply dZ) | exact HB.out))) : w.heap.size ≤ gb101)); clear HB; have HB := n0_; have BK101 := n1_; have GW101 := n2_; have GE101 := n3_; clear n0_ n1_ n2_ n3_; clear hb hbox hg; have hcz27_0 : w26.cell? ⟨gb101, 0, none⟩ = some (.int .i64 a0_0) := (bZ BK101.out 0).trans rfl; have hcz27_1 : w26.cell? ⟨gb101, 1, none⟩ = some (.slice A0_1 l0_1.length c0_1) := (bZ BK101.out 1).trans rfl; have hfz27_0 := fZ BK101.out 0; have hfz27_1 := fZ BK101.out 1) | ((with_reducible refine gate_callee (f := 31) rfl ?_); refine goesL_ (some 9) rfl rfl Tryd.func31 (by kernel_rfl) rfl #[.agg #[.int .i64 a0_0, .slice A0_1 l0_1.length c0_1]] rfl (by (try simp only [List.map_toArray, List.map_cons, List.map_nil]); first | done | rfl | (simp only [List.length_drop, List.length_take]; rfl)) ?_; (with_reducible refine (code_first.calls a0_0 _ _ l0_1 t102 _ ?side1 ?side2 A2.out).mono ?_); (case side1 => repeat (first | exact (Kd.C_below HR0_1.out HB.out) | (with_reducible refine Kd.C_alloc ?_ _) | (with_reducible refine Kd.C_drewN ?_ _) | (with_reducible refine Kd.C_drew ?_))); (case side2 => exact HC0_1.out); rintro e w28 ⟨rfl, hb⟩; refine ⟨_, rfl, ?_⟩; replace BK101 := Az.mk (kZ (g := gb101) (o := .cells #[.int .i64 a0_0, .slice A0_1 l0_1.length c0_1] 24 (0, 0)) (by (with_reducible repeat (first | refine blk_drewN ?_ _ | refine wZ ?_ | refine aZ ?_ _)); exact BK101.out) hb); replace HB := Az.mk (tZ (by repeat (first | (with_reducible first | exact HB.out | apply lZ | apply pZ | apply dZ | refine sZ ?_ GE101.out) | exact HB.out)) hb); (try clear hb); (try clear hb2); (try clear hk); (try clear hi)))
  go_ret
  exact ⟨by first | rfl | (simp [errW_none, errW_some] <;> rfl) | (simp [*, errW_none, errW_some] <;> rfl), by repeat (first | (with_reducible first | exact HB.out | apply lZ | apply pZ | apply dZ | refine sZ ?_ GE101.out) | exact HB.out)⟩
def fugueref00_EqInts.l0 : Nat → List Int → List Int → Int → Option (Bool)
 | 0, _, _, _ => none
 | k + 1, x0, x1, x5 => if x5 < (x0.length : Int) then (if 0 ≤ x5 then (if x5 < (x1.length : Int) then (if (rd x0 x5) = (rd x1 x5) then (fugueref00_EqInts.l0 k x0 x1 (wrap64 (x5 + 1))) else (some false)) else (none)) else (none)) else (some true)
def fugueref00_EqInts.f (k : Nat) (l0 : List Int) (l1 : List Int) : Option (Bool) := if (l0.length : Int) = (l1.length : Int) then (fugueref00_EqInts.l0 k l0 l1 0) else (some false)
theorem fugueref00_EqInts.mono_l : ∀ k, (∀ y0 y1 y2, LeO (fugueref00_EqInts.l0 k y0 y1 y2) (fugueref00_EqInts.l0 (k + 1) y0 y1 y2))
 | 0 => fun _ _ _ r h => by simp [fugueref00_EqInts.l0] at h
 | k + 1 => by
  have ih0 := fugueref00_EqInts.mono_l k
  ·intro y0 y1 y2
   unfold fugueref00_EqInts.l0
   repeat' first
   | (with_reducible exact ih0 _ _ _)
   | (with_reducible exact LeO.refl _)
   | (with_reducible exact LeO.none _)
   | (with_reducible refine LeO.ite ?_ ?_)
   | (with_reducible refine LeO.bind ?_ (fun _ => ?_))
   | exact ih0 _ _ _
   | exact LeO.none _
   | refine LeO.ite ?_ ?_
   | refine LeO.bind ?_ (fun _ => ?_)
theorem fugueref00_EqInts.mono : ∀ a0 a1 k, LeO (fugueref00_EqInts.f k a0 a1) (fugueref00_EqInts.f (k + 1) a0 a1) := by
 intro a0 a1 k
 have ih0 := fugueref00_EqInts.mono_l k
 unfold fugueref00_EqInts.f
 repeat' first
   | (with_reducible exact ih0 _ _ _)
   | (with_reducible exact LeO.refl _)
   | (with_reducible exact LeO.none _)
   | (with_reducible refine LeO.ite ?_ ?_)
   | (with_reducible refine LeO.bind ?_ (fun _ => ?_))
   | exact ih0 _ _ _
   | exact LeO.none _
   | refine LeO.ite ?_ ?_
   | refine LeO.bind ?_ (fun _ => ?_)
set_option maxHeartbeats 8000000 in
set_option maxRecDepth 100000 in
theorem fugueref00_EqInts.calls (k : Nat) (A0 : Option Addr) (c0 : Nat) (l0 : List Int) (A1 : Option Addr) (c1 : Nat) (l1 : List Int) (r : Bool) (hr_ : r = true) (w : World) (hr0 : Kd.C (Kd.int .i64) w A0 l0.length l0) (hc0 : l0.length ≤ c0) (hr1 : Kd.C (Kd.int .i64) w A1 l1.length l1) (hc1 : l1.length ≤ c1) (h : fugueref00_EqInts.f k l0 l1 = some r) :
  Calls Tryd.prog 109 #[.slice A0 l0.length c0, .slice A1 l1.length c1] w fun e w' => e = .returned (.bool r) ∧ Drawn0 w w' := by
 have HR0 := Az.mk hr0
 have HC0 := Az.mk hc0
 clear hr0 hc0
 have HR1 := Az.mk hr1
 have HC1 := Az.mk hc1
 clear hr1 hc1
 have H : (if (l0.length : Int) = (l1.length : Int) then (fugueref00_EqInts.l0 k l0 l1 0) else (some false)) = some r := h
 clear h
 by_cases c3 : (l0.length : Int) = (l1.length : Int)
 ·rw [if_pos c3] at H
  have c3b0 : ((l0.length : Int) == (l1.length : Int)) = true := beq_iff_eq.mpr c3
  have c3b1 : ((l0.length : Int) != (l1.length : Int)) = false := bne_eq_false_iff_eq.mpr c3
  have c3b2 : (l0.length == l1.length) = true := by first | simpa using c3 | (simp at c3 ⊢; omega)
  clear c3
  have H' := Az.mk H
  clear H
  go_enter Tryd.func109, Tryd.ntmps109
  go_wp2
  repeat (go_quiet (fail); try go_wp2)
  go_loopg [5] k (fun kq v5 w' => ∃ (x5_1 : Int), v5 = .int .i64 x5_1 ∧ Az (fugueref00_EqInts.l0 kq l0 l1 x5_1 = some r) ∧ Az (kq ≤ k) ∧ Drawn0 w w')
  case atStart => exact ⟨(0), (by first | rfl | (simp; done) | (simp [*]; done)), H', ⟨Nat.le_refl _⟩, by repeat (first | exact Drawn0.refl _ | apply Drawn0.step)⟩
  case round =>
   clear H'
   try clear c1
   try clear p2
   try clear c3
   try clear c3b0
   try clear c3b1
   try clear c3b2
   obtain ⟨x5_1, rfl, HA, HK1, ⟨m1, rfl⟩⟩ := hrel
   cases gk with
   | zero => exact absurd HA.out (by simp [fugueref00_EqInts.l0])
   | succ k1 =>
    have H := HA.out
    clear HA
    simp only [fugueref00_EqInts.l0] at H
    by_cases c4 : x5_1 < (l0.length : Int)
    ·rw [if_pos c4] at H
     have c4b0 : decide (x5_1 < (l0.length : Int)) = true := decide_eq_true c4
     clear c4
     by_cases c5 : 0 ≤ x5_1
     ·rw [if_pos c5] at H
      have c5b0 : decide (0 ≤ x5_1) = true := decide_eq_true c5
      clear c5
      by_cases c6 : x5_1 < (l1.length : Int)
      ·rw [if_pos c6] at H
       have c6b0 : decide (x5_1 < (l1.length : Int)) = true := decide_eq_true c6
       clear c6
       by_cases c7 : (rd l0 x5_1) = (rd l1 x5_1)
       ·rw [if_pos c7] at H
        have c7b0 : ((rd l0 x5_1) == (rd l1 x5_1)) = true := beq_iff_eq.mpr c7
        have c7b1 : ((rd l0 x5_1) != (rd l1 x5_1)) = false := bne_eq_false_iff_eq.mpr c7
        clear c7
        have H' := Az.mk H
        clear H
        have p107 : 0 ≤ (x5_1 : Int) := of_decide_eq_true (by first | (with_reducible assumption) | assumption)
        have q107 : x5_1 < (l0.length : Int) := of_decide_eq_true (by first | (with_reducible assumption) | assumption)
        obtain ⟨ad107, e107, hx107_0⟩ := Kd.at_int HR0.out x5_1 p107 q107
        cases e107
        replace p107 := eq_true p107
        replace q107 := eq_true q107
        have p108 : 0 ≤ (x5_1 : Int) := of_decide_eq_true (by first | (with_reducible assumption) | assumption)
        have q108 : x5_1 < (l1.length : Int) := of_decide_eq_true (by first | (with_reducible assumption) | assumption)
        obtain ⟨ad108, e108, hx108_0⟩ := Kd.at_int HR1.out x5_1 p108 q108
        cases e108
        replace p108 := eq_true p108
        replace q108 := eq_true q108
        go_wp2
        repeat (go_quiet (fail); try go_wp2)
        go_roundg k1
        case measure => have := HK1.out; omega
        case rel => exact ⟨(wrap64 (x5_1 + 1)), (by first | rfl | (simp; done) | (simp [*]; done)), H', ⟨by have := HK1.out; omega⟩, by repeat (first | exact Drawn0.refl _ | apply Drawn0.step)⟩
       ·rw [if_neg c7] at H
        rw [Option.some.injEq] at H; subst H; cases hr_
      ·rw [if_neg c6] at H
       exact absurd H (by simp)
     ·rw [if_neg c5] at H
      exact absurd H (by simp)
    ·rw [if_neg c4] at H
     have c4b0 : decide (x5_1 < (l0.length : Int)) = false := decide_eq_false c4
     clear c4
     obtain rfl := Option.some.inj H
     go_wp2
     repeat (go_quiet (fail); try go_wp2)
     go_ret
     exact ⟨by first | rfl | (simp; done) | (simp [*]; done), by repeat (first | exact Drawn0.refl _ | apply Drawn0.step)⟩
 ·rw [if_neg c3] at H
  rw [Option.some.injEq] at H; subst H; cases hr_
def fugueref00_EqInstr.f (k : Nat) (a0_0 : Int) (a0_1 : Int) (a0_2 : Int) (a0_3 : Int) (a0_4 : Int) (l0_5 : List Int) (l0_6 : List Int) (a1_0 : Int) (a1_1 : Int) (a1_2 : Int) (a1_3 : Int) (a1_4 : Int) (l1_5 : List Int) (l1_6 : List Int) : Option (Bool) := if a0_0 = a1_0 then (if a0_1 = a1_1 then (if a0_2 = a1_2 then (if a0_3 = a1_3 then (if a0_4 = a1_4 then ((fugueref00_EqInts.f k l0_5 l1_5).bind fun t111 => (if t111 = true then ((fugueref00_EqInts.f k l0_6 l1_6).bind fun t112 => (some t112)) else (some false))) else (some false)) else (some false)) else (some false)) else (some false)) else (some false)
theorem fugueref00_EqInstr.mono : ∀ a0 a1 a2 a3 a4 a5 a6 a7 a8 a9 a10 a11 a12 a13 k, LeO (fugueref00_EqInstr.f k a0 a1 a2 a3 a4 a5 a6 a7 a8 a9 a10 a11 a12 a13) (fugueref00_EqInstr.f (k + 1) a0 a1 a2 a3 a4 a5 a6 a7 a8 a9 a10 a11 a12 a13) := by
 intro a0 a1 a2 a3 a4 a5 a6 a7 a8 a9 a10 a11 a12 a13 k
 unfold fugueref00_EqInstr.f
 repeat' first
   | (with_reducible exact fugueref00_EqInts.mono _ _ _)
   | (with_reducible exact LeO.refl _)
   | (with_reducible exact LeO.none _)
   | (with_reducible refine LeO.ite ?_ ?_)
   | (with_reducible refine LeO.bind ?_ (fun _ => ?_))
   | exact fugueref00_EqInts.mono _ _ _
   | exact LeO.none _
   | refine LeO.ite ?_ ?_
   | refine LeO.bind ?_ (fun _ => ?_)
set_option maxHeartbeats 8000000 in
set_option maxRecDepth 100000 in
theorem fugueref00_EqInstr.calls (k : Nat) (a0_0 : Int) (a0_1 : Int) (a0_2 : Int) (a0_3 : Int) (a0_4 : Int) (A0_5 : Option Addr) (c0_5 : Nat) (l0_5 : List Int) (A0_6 : Option Addr) (c0_6 : Nat) (l0_6 : List Int) (a1_0 : Int) (a1_1 : Int) (a1_2 : Int) (a1_3 : Int) (a1_4 : Int) (A1_5 : Option Addr) (c1_5 : Nat) (l1_5 : List Int) (A1_6 : Option Addr) (c1_6 : Nat) (l1_6 : List Int) (r : Bool) (hr_ : r = true) (w : World) (hr0_5 : Kd.C (Kd.int .i64) w A0_5 l0_5.length l0_5) (hc0_5 : l0_5.length ≤ c0_5) (hr0_6 : Kd.C (Kd.int .i64) w A0_6 l0_6.length l0_6) (hc0_6 : l0_6.length ≤ c0_6) (hr1_5 : Kd.C (Kd.int .i64) w A1_5 l1_5.length l1_5) (hc1_5 : l1_5.length ≤ c1_5) (hr1_6 : Kd.C (Kd.int .i64) w A1_6 l1_6.length l1_6) (hc1_6 : l1_6.length ≤ c1_6) (h : fugueref00_EqInstr.f k a0_0 a0_1 a0_2 a0_3 a0_4 l0_5 l0_6 a1_0 a1_1 a1_2 a1_3 a1_4 l1_5 l1_6 = some r) :
  Calls Tryd.prog 106 #[.agg #[.int .i64 a0_0, .int .i64 a0_1, .int .i64 a0_2, .int .i64 a0_3, .int .i64 a0_4, .slice A0_5 l0_5.length c0_5, .slice A0_6 l0_6.length c0_6], .agg #[.int .i64 a1_0, .int .i64 a1_1, .int .i64 a1_2, .int .i64 a1_3, .int .i64 a1_4, .slice A1_5 l1_5.length c1_5, .slice A1_6 l1_6.length c1_6]] w fun e w' => e = .returned (.bool r) ∧ Below w.heap.size w w' := by
 have hu50 := Tryd.underlying50
 have HR0_5 := Az.mk hr0_5
 have HC0_5 := Az.mk hc0_5
 clear hr0_5 hc0_5
 have HR0_6 := Az.mk hr0_6
 have HC0_6 := Az.mk hc0_6
 clear hr0_6 hc0_6
 have HR1_5 := Az.mk hr1_5
 have HC1_5 := Az.mk hc1_5
 clear hr1_5 hc1_5
 have HR1_6 := Az.mk hr1_6
 have HC1_6 := Az.mk hc1_6
 clear hr1_6 hc1_6
 have HB := Az.mk (Below.refl w.heap.size w)
 have H : (if a0_0 = a1_0 then (if a0_1 = a1_1 then (if a0_2 = a1_2 then (if a0_3 = a1_3 then (if a0_4 = a1_4 then ((fugueref00_EqInts.f k l0_5 l1_5).bind fun t111 => (if t111 = true then ((fugueref00_EqInts.f k l0_6 l1_6).bind fun t112 => (some t112)) else (some false))) else (some false)) else (some false)) else (some false)) else (some false)) else (some false)) = some r := h
 clear h
 by_cases c3 : a0_0 = a1_0
 ·rw [if_pos c3] at H
  have c3b0 : (a0_0 == a1_0) = true := beq_iff_eq.mpr c3
  have c3b1 : (a0_0 != a1_0) = false := bne_eq_false_iff_eq.mpr c3
  clear c3
  by_cases c4 : a0_1 = a1_1
  ·rw [if_pos c4] at H
   have c4b0 : (a0_1 == a1_1) = true := beq_iff_eq.mpr c4
   have c4b1 : (a0_1 != a1_1) = false := bne_eq_false_iff_eq.mpr c4
   clear c4
   by_cases c5 : a0_2 = a1_2
   ·rw [if_pos c5] at H
    have c5b0 : (a0_2 == a1_2) = true := beq_iff_eq.mpr c5
    have c5b1 : (a0_2 != a1_2) = false := bne_eq_false_iff_eq.mpr c5
    clear c5
    by_cases c6 : a0_3 = a1_3
    ·rw [if_pos c6] at H
     have c6b0 : (a0_3 == a1_3) = true := beq_iff_eq.mpr c6
     have c6b1 : (a0_3 != a1_3) = false := bne_eq_false_iff_eq.mpr c6
     clear c6
     by_cases c7 : a0_4 = a1_4
     ·rw [if_pos c7] at H
      have c7b0 : (a0_4 == a1_4) = true := beq_iff_eq.mpr c7
      have c7b1 : (a0_4 != a1_4) = false := bne_eq_false_iff_eq.mpr c7
      clear c7
      replace H := Option.bind_eq_some_iff.mp H
      obtain ⟨t111, A80, H⟩ := H
      replace H : (if t111 = true then ((fugueref00_EqInts.f k l0_6 l1_6).bind fun t112 => (some t112)) else (some false)) = some r := H
      have A8 := Az.mk A80
      clear A80
      by_cases c9 : t111 = true
      ·subst c9
       have H1 : ((fugueref00_EqInts.f k l0_6 l1_6).bind fun t112 => (some t112)) = some r := by rw [if_pos rfl] at H; exact H
       clear H
       have H := H1
       clear H1
       replace H := Option.bind_eq_some_iff.mp H
       obtain ⟨t112, A100, H⟩ := H
       replace H : (some t112) = some r := H
       have A10 := Az.mk A100
       clear A100
       obtain rfl := Option.some.inj H
       go_enter Tryd.func106, Tryd.ntmps106
       go_wp2_with (first | ((with_reducible refine gate_dst (N := 2) rfl ?_); refine box_event ?hg (N := 2) ?hd (cs := #[.int .i64 a0_0, .int .i64 a0_1, .int .i64 a0_2, .int .i64 a0_3, .int .i64 a0_4, .slice A0_5 l0_5.length c0_5, .slice A0_6 l0_6.length c0_6]) (t := 50) ?hr ?_; (case hd => rfl); (case hg => rfl); (case hr => first | (go_simp; done) | (go_simp; rfl)); intro gb109 hg w11 hbox hb; have n0_ := Az.mk (tZ (by repeat (first | (with_reducible first | exact HB.out | apply lZ | apply pZ | apply dZ) | exact HB.out)) hb); have n1_ := Az.mk (hbox); have n2_ := Az.mk ((by rw [hg]; exact (zZ (by repeat (first | (with_reducible first | exact HB.out | apply lZ | apply pZ | apply dZ) | exact HB.out))) : w.heap.size ≤ gb109)); have n3_ := Az.mk ((by rw [hg]; exact (zZ (by repeat (first | (with_reducible first | exact HB.out | apply lZ | apply pZ | apply dZ) | exact HB.out))) : w.heap.size ≤ gb109)); clear HB; have HB := n0_; have BK109 := n1_; have GW109 := n2_; have GE109 := n3_; clear n0_ n1_ n2_ n3_; clear hb hbox hg) | ((with_reducible refine gate_dst (N := 3) rfl ?_); refine box_event ?hg (N := 3) ?hd (cs := #[.int .i64 a1_0, .int .i64 a1_1, .int .i64 a1_2, .int .i64 a1_3, .int .i64 a1_4, .slice A1_5 l1_5.length c1_5, .slice A1_6 l1_6.length c1_6]) (t := 50) ?hr ?_; (case hd => rfl); (case hg => rfl); (case hr => first | (go_simp; done) | (go_simp; rfl)); intro gb110 hg w12 hbox hb; have n0_ := Az.mk (kZ (g := gb109) (o := .cells #[.int .i64 a0_0, .int .i64 a0_1, .int .i64 a0_2, .int .i64 a0_3, .int .i64 a0_4, .slice A0_5 l0_5.length c0_5, .slice A0_6 l0_6.length c0_6] 50 (0, 0)) (by (with_reducible repeat (first | refine blk_drewN ?_ _ | refine wZ ?_ | refine aZ ?_ _)); exact BK109.out) hb); have n1_ := Az.mk (tZ (by repeat (first | (with_reducible first | exact HB.out | apply lZ | apply pZ | apply dZ | refine sZ ?_ GE109.out) | exact HB.out)) hb); have n2_ := Az.mk (hbox); have n3_ := Az.mk ((by rw [hg]; exact (zZ (by repeat (first | (with_reducible first | exact HB.out | apply lZ | apply pZ | apply dZ | refine sZ ?_ GE109.out) | exact HB.out))) : w.heap.size ≤ gb110)); have n4_ := Az.mk ((by rw [hg]; exact (zZ (by repeat (first | (with_reducible first | exact HB.out | apply lZ | apply pZ | apply dZ | refine sZ ?_ GE109.out) | exact HB.out))) : w.heap.size ≤ gb110)); have n5_ := Az.mk ((by rw [hg]; exact Nat.ne_of_lt (blk_lt (g := gb109) (o := .cells #[.int .i64 a0_0, .int .i64 a0_1, .int .i64 a0_2, .int .i64 a0_3, .int .i64 a0_4, .slice A0_5 l0_5.length c0_5, .slice A0_6 l0_6.length c0_6] 50 (0, 0)) (by (with_reducible repeat (first | refine blk_drewN ?_ _ | refine wZ ?_ | refine aZ ?_ _)); exact BK109.out)) : gb109 ≠ gb110)); have n6_ := Az.mk ((by rw [hg]; exact Nat.ne_of_gt (blk_lt (g := gb109) (o := .cells #[.int .i64 a0_0, .int .i64 a0_1, .int .i64 a0_2, .int .i64 a0_3, .int .i64 a0_4, .slice A0_5 l0_5.length c0_5, .slice A0_6 l0_6.length c0_6] 50 (0, 0)) (by (with_reducible repeat (first | refine blk_drewN ?_ _ | refine wZ ?_ | refine aZ ?_ _)); exact BK109.out)) : gb110 ≠ gb109)); clear BK109; clear HB; have BK109 := n0_; have HB := n1_; have BK110 := n2_; have GW110 := n3_; have GE110 := n4_; have NB109_110 := n5_; have NB110_109 := n6_; clear n0_ n1_ n2_ n3_ n4_ n5_ n6_; clear hb hbox hg; have hnb13 := NB109_110.out; have hnc13 := NB110_109.out; have hcz14_0 : w12.cell? ⟨gb109, 0, none⟩ = some (.int .i64 a0_0) := (bZ BK109.out 0).trans rfl; have hcz14_1 : w12.cell? ⟨gb109, 1, none⟩ = some (.int .i64 a0_1) := (bZ BK109.out 1).trans rfl; have hcz14_2 : w12.cell? ⟨gb109, 2, none⟩ = some (.int .i64 a0_2) := (bZ BK109.out 2).trans rfl; have hcz14_3 : w12.cell? ⟨gb109, 3, none⟩ = some (.int .i64 a0_3) := (bZ BK109.out 3).trans rfl; have hcz14_4 : w12.cell? ⟨gb109, 4, none⟩ = some (.int .i64 a0_4) := (bZ BK109.out 4).trans rfl; have hcz14_5 : w12.cell? ⟨gb109, 5, none⟩ = some (.slice A0_5 l0_5.length c0_5) := (bZ BK109.out 5).trans rfl; have hcz14_6 : w12.cell? ⟨gb109, 6, none⟩ = some (.slice A0_6 l0_6.length c0_6) := (bZ BK109.out 6).trans rfl; have hfz14_0 := fZ BK109.out 0; have hfz14_1 := fZ BK109.out 1; have hfz14_2 := fZ BK109.out 2; have hfz14_3 := fZ BK109.out 3; have hfz14_4 := fZ BK109.out 4; have hfz14_5 := fZ BK109.out 5; have hfz14_6 := fZ BK109.out 6; have hcz15_0 : w12.cell? ⟨gb110, 0, none⟩ = some (.int .i64 a1_0) := (bZ BK110.out 0).trans rfl; have hcz15_1 : w12.cell? ⟨gb110, 1, none⟩ = some (.int .i64 a1_1) := (bZ BK110.out 1).trans rfl; have hcz15_2 : w12.cell? ⟨gb110, 2, none⟩ = some (.int .i64 a1_2) := (bZ BK110.out 2).trans rfl; have hcz15_3 : w12.cell? ⟨gb110, 3, none⟩ = some (.int .i64 a1_3) := (bZ BK110.out 3).trans rfl; have hcz15_4 : w12.cell? ⟨gb110, 4, none⟩ = some (.int .i64 a1_4) := (bZ BK110.out 4).trans rfl; have hcz15_5 : w12.cell? ⟨gb110, 5, none⟩ = some (.slice A1_5 l1_5.length c1_5) := (bZ BK110.out 5).trans rfl; have hcz15_6 : w12.cell? ⟨gb110, 6, none⟩ = some (.slice A1_6 l1_6.length c1_6) := (bZ BK110.out 6).trans rfl; have hfz15_0 := fZ BK110.out 0; have hfz15_1 := fZ BK110.out 1; have hfz15_2 := fZ BK110.out 2; have hfz15_3 := fZ BK110.out 3; have hfz15_4 := fZ BK110.out 4; have hfz15_5 := fZ BK110.out 5; have hfz15_6 := fZ BK110.out 6) | (go_at_call 109; (with_reducible refine (fugueref00_EqInts.calls k _ _ l0_5 _ _ l1_5 true rfl _ ?side1 ?side2 ?side3 ?side4 A8.out).mono ?_); (case side1 => repeat (first | exact (Kd.C_below HR0_5.out HB.out) | (with_reducible refine Kd.C_alloc ?_ _) | (with_reducible refine Kd.C_drewN ?_ _) | (with_reducible refine Kd.C_drew ?_))); (case side2 => exact HC0_5.out); (case side3 => repeat (first | exact (Kd.C_below HR1_5.out HB.out) | (with_reducible refine Kd.C_alloc ?_ _) | (with_reducible refine Kd.C_drewN ?_ _) | (with_reducible refine Kd.C_drew ?_))); (case side4 => exact HC1_5.out); rintro e w' ⟨rfl, ⟨nd, rfl⟩⟩) | (go_at_call 109; (with_reducible refine (fugueref00_EqInts.calls k _ _ l0_6 _ _ l1_6 t112 hr_ _ ?side1 ?side2 ?side3 ?side4 A10.out).mono ?_); (case side1 => repeat (first | exact (Kd.C_below HR0_6.out (by repeat (first | (with_reducible first | exact HB.out | apply lZ | apply pZ | apply dZ | refine sZ ?_ GE109.out | refine sZ ?_ GE110.out) | exact HB.out))) | (with_reducible refine Kd.C_alloc ?_ _) | (with_reducible refine Kd.C_drewN ?_ _) | (with_reducible refine Kd.C_drew ?_))); (case side2 => exact HC0_6.out); (case side3 => repeat (first | exact (Kd.C_below HR1_6.out (by repeat (first | (with_reducible first | exact HB.out | apply lZ | apply pZ | apply dZ | refine sZ ?_ GE109.out | refine sZ ?_ GE110.out) | exact HB.out))) | (with_reducible refine Kd.C_alloc ?_ _) | (with_reducible refine Kd.C_drewN ?_ _) | (with_reducible refine Kd.C_drew ?_))); (case side4 => exact HC1_6.out); rintro e w' ⟨rfl, ⟨nd, rfl⟩⟩))
       go_ret
       exact ⟨by first | rfl | (simp [errW_none, errW_some] <;> rfl) | (simp [*, errW_none, errW_some] <;> rfl), by repeat (first | (with_reducible first | exact HB.out | apply lZ | apply pZ | apply dZ | refine sZ ?_ GE109.out | refine sZ ?_ GE110.out) | exact HB.out)⟩
      ·replace c9 := Bool.eq_false_iff.mpr c9
       subst c9
       have H1 : (some false) = some r := by rw [if_neg (show ¬ (false = true) by decide)] at H; exact H
       rw [Option.some.injEq] at H1; subst H1; cases hr_
     ·rw [if_neg c7] at H
      rw [Option.some.injEq] at H; subst H; cases hr_
    ·rw [if_neg c6] at H
     rw [Option.some.injEq] at H; subst H; cases hr_
   ·rw [if_neg c5] at H
    rw [Option.some.injEq] at H; subst H; cases hr_
  ·rw [if_neg c4] at H
   rw [Option.some.injEq] at H; subst H; cases hr_
 ·rw [if_neg c3] at H
  rw [Option.some.injEq] at H; subst H; cases hr_
end Go.Proofs.YteonppgdmhakoaaDoor.PC
namespace Go.Proofs.YteonppgdmhakoaaDoor.PC
open Go.RowKit Go.Proofs.YteonppgdmhakoaaDoorW.PrintWords Go.Proofs.YteonppgdmhakoaaDoorW.PrintLast Go.Proofs.YteonppgdmhakoaaDoorW.PrintMore
attribute [local go_sem] max2_int min2_int max_two min_two max_three min_three max_four min_four
set_option linter.unusedVariables false
set_option linter.unusedSimpArgs false
def fugueref00_EqCode.l0 : Nat → List (S50) → List (S50) → Int → Option (Bool)
 | 0, _, _, _ => none
 | k + 1, x0, x1, x5 => if x5 < (x0.length : Int) then (if 0 ≤ x5 then (if x5 < (x1.length : Int) then ((fugueref00_EqInstr.f k ((rd_T50 x0 x5).f0) ((rd_T50 x0 x5).f1) ((rd_T50 x0 x5).f2) ((rd_T50 x0 x5).f3) ((rd_T50 x0 x5).f4) ((rd_T50 x0 x5).f5) ((rd_T50 x0 x5).f6) ((rd_T50 x1 x5).f0) ((rd_T50 x1 x5).f1) ((rd_T50 x1 x5).f2) ((rd_T50 x1 x5).f3) ((rd_T50 x1 x5).f4) ((rd_T50 x1 x5).f5) ((rd_T50 x1 x5).f6)).bind fun t115 => (if t115 = true then (fugueref00_EqCode.l0 k x0 x1 (wrap64 (x5 + 1))) else (some false))) else (none)) else (none)) else (some true)
def fugueref00_EqCode.f (k : Nat) (l0 : List (S50)) (l1 : List (S50)) : Option (Bool) := if (l0.length : Int) = (l1.length : Int) then (fugueref00_EqCode.l0 k l0 l1 0) else (some false)
theorem fugueref00_EqCode.mono_l : ∀ k, (∀ y0 y1 y2, LeO (fugueref00_EqCode.l0 k y0 y1 y2) (fugueref00_EqCode.l0 (k + 1) y0 y1 y2))
 | 0 => fun _ _ _ r h => by simp [fugueref00_EqCode.l0] at h
 | k + 1 => by
  have ih0 := fugueref00_EqCode.mono_l k
  ·intro y0 y1 y2
   unfold fugueref00_EqCode.l0
   repeat' first
   | (with_reducible exact ih0 _ _ _)
   | (with_reducible exact fugueref00_EqInstr.mono _ _ _ _ _ _ _ _ _ _ _ _ _ _ _)
   | (with_reducible exact LeO.refl _)
   | (with_reducible exact LeO.none _)
   | (with_reducible refine LeO.ite ?_ ?_)
   | (with_reducible refine LeO.bind ?_ (fun _ => ?_))
   | exact ih0 _ _ _
   | exact fugueref00_EqInstr.mono _ _ _ _ _ _ _ _ _ _ _ _ _ _ _
   | exact LeO.none _
   | refine LeO.ite ?_ ?_
   | refine LeO.bind ?_ (fun _ => ?_)
theorem fugueref00_EqCode.mono : ∀ a0 a1 k, LeO (fugueref00_EqCode.f k a0 a1) (fugueref00_EqCode.f (k + 1) a0 a1) := by
 intro a0 a1 k
 have ih0 := fugueref00_EqCode.mono_l k
 unfold fugueref00_EqCode.f
 repeat' first
   | (with_reducible exact ih0 _ _ _)
   | (with_reducible exact fugueref00_EqInstr.mono _ _ _ _ _ _ _ _ _ _ _ _ _ _ _)
   | (with_reducible exact LeO.refl _)
   | (with_reducible exact LeO.none _)
   | (with_reducible refine LeO.ite ?_ ?_)
   | (with_reducible refine LeO.bind ?_ (fun _ => ?_))
   | exact ih0 _ _ _
   | exact fugueref00_EqInstr.mono _ _ _ _ _ _ _ _ _ _ _ _ _ _ _
   | exact LeO.none _
   | refine LeO.ite ?_ ?_
   | refine LeO.bind ?_ (fun _ => ?_)
def fugueref00_EqCode.T6 : Bool × List (List Nat × List Nat) := (true, [([], []), ([], []), ([0, 1], [0, 1]), ([2], [2]), ([], []), ([], []), ([4, 5], [4, 5]), ([6], [6]), ([3, 7], [3, 7]), ([8, 8, 0, 1, 2, 3, 4, 5, 6, 7, 8], [8])])
def fugueref00_EqCode.B6 : List Nat := [0, 0, 3, 7, 0, 0, 48, 112, 255, 511]
theorem fugueref00_EqCode.tab6 : rtab .any (opsOf Tryd.f93 6) = fugueref00_EqCode.T6 := by kernel_rfl
theorem fugueref00_EqCode.bits6 : waitsOk fugueref00_EqCode.T6.2 fugueref00_EqCode.B6 = true := by kernel_rfl
set_option maxHeartbeats 8000000 in
set_option maxRecDepth 100000 in
theorem fugueref00_EqCode.calls (k : Nat) (A0 : Option Addr) (c0 : Nat) (l0 : List (S50)) (A1 : Option Addr) (c1 : Nat) (l1 : List (S50)) (r : Bool) (hr_ : r = true) (w : World) (hr0 : Kd.C k50 w A0 l0.length l0) (hc0 : l0.length ≤ c0) (hr1 : Kd.C k50 w A1 l1.length l1) (hc1 : l1.length ≤ c1) (h : fugueref00_EqCode.f k l0 l1 = some r) :
  Calls Tryd.prog 93 #[.slice A0 l0.length c0, .slice A1 l1.length c1] w fun e w' => e = .returned (.bool r) ∧ Below w.heap.size w w' := by
 have hu50 := Tryd.underlying50
 have HR0 := Az.mk hr0
 have HC0 := Az.mk hc0
 clear hr0 hc0
 have HR1 := Az.mk hr1
 have HC1 := Az.mk hc1
 clear hr1 hc1
 have HB := Az.mk (Below.refl w.heap.size w)
 have H : (if (l0.length : Int) = (l1.length : Int) then (fugueref00_EqCode.l0 k l0 l1 0) else (some false)) = some r := h
 clear h
 by_cases c3 : (l0.length : Int) = (l1.length : Int)
 ·rw [if_pos c3] at H
  have c3b0 : ((l0.length : Int) == (l1.length : Int)) = true := beq_iff_eq.mpr c3
  have c3b1 : ((l0.length : Int) != (l1.length : Int)) = false := bne_eq_false_iff_eq.mpr c3
  have c3b2 : (l0.length == l1.length) = true := by first | simpa using c3 | (simp at c3 ⊢; omega)
  clear c3
  have H' := Az.mk H
  clear H
  go_enter Tryd.func93, Tryd.ntmps93
  go_wp2
  go_loopg [5] k (fun kq v5 w' => ∃ (x5_1 : Int), v5 = .int .i64 x5_1 ∧ Az (fugueref00_EqCode.l0 kq l0 l1 x5_1 = some r) ∧ Az (kq ≤ k) ∧ Az (Below w.heap.size w w'))
  case atStart => exact ⟨(0), (by first | rfl | (simp; done) | (simp [*]; done)), H', ⟨Nat.le_refl _⟩, ⟨by repeat (first | (with_reducible first | exact HB.out | apply lZ | apply pZ | apply dZ) | exact HB.out)⟩⟩
  case round =>
   clear H'
   try clear c1
   try clear p2
   try clear c3
   try clear c3b0
   try clear c3b1
   try clear c3b2
   obtain ⟨x5_1, rfl, HA, HK1, HB⟩ := hrel
   cases gk with
   | zero => exact absurd HA.out (by simp [fugueref00_EqCode.l0])
   | succ k1 =>
    have H := HA.out
    clear HA
    simp only [fugueref00_EqCode.l0] at H
    by_cases c4 : x5_1 < (l0.length : Int)
    ·rw [if_pos c4] at H
     have c4b0 : decide (x5_1 < (l0.length : Int)) = true := decide_eq_true c4
     clear c4
     by_cases c5 : 0 ≤ x5_1
     ·rw [if_pos c5] at H
      have c5b0 : decide (0 ≤ x5_1) = true := decide_eq_true c5
      clear c5
      by_cases c6 : x5_1 < (l1.length : Int)
      ·rw [if_pos c6] at H
       have c6b0 : decide (x5_1 < (l1.length : Int)) = true := decide_eq_true c6
       clear c6
       replace H := Option.bind_eq_some_iff.mp H
       obtain ⟨t115, A70, H⟩ := H
       replace H : (if t115 = true then (fugueref00_EqCode.l0 k1 l0 l1 (wrap64 (x5_1 + 1))) else (some false)) = some r := H
       have A7 := Az.mk A70
       clear A70
       by_cases c8 : t115 = true
       ·subst c8
        have H1 : (fugueref00_EqCode.l0 k1 l0 l1 (wrap64 (x5_1 + 1))) = some r := by rw [if_pos rfl] at H; exact H
        clear H
        have H := H1
        clear H1
        have H' := Az.mk H
        clear H
        try go_wp2
        replace HB := Az.mk (dZ HB.out)
        have p113 : 0 ≤ (x5_1 : Int) := of_decide_eq_true (by first | (with_reducible assumption) | assumption)
        have q113 : x5_1 < (l0.length : Int) := of_decide_eq_true (by first | (with_reducible assumption) | assumption)
        obtain ⟨ad113, A113_5, c113_5, A113_6, c113_6, e113, hx113_0, hx113_1, hx113_2, hx113_3, hx113_4, hx113_5, hx113_6, hl113_5, hi113_5, hl113_6, hi113_6⟩ := at_T50 HR0.out x5_1 p113 q113
        have hw113_6 := hx113_6
        have hw113_5 := hx113_5
        have hw113_4 := hx113_4
        have hw113_3 := hx113_3
        have hw113_2 := hx113_2
        have hw113_1 := hx113_1
        have hw113_0 := hx113_0
        cases e113
        replace hx113_0 := (HB.out.cell (World.block_lt_of_cell? w _ hx113_0)).trans hx113_0
        replace hx113_1 := (HB.out.cell (World.block_lt_of_cell? w _ hx113_1)).trans hx113_1
        replace hx113_2 := (HB.out.cell (World.block_lt_of_cell? w _ hx113_2)).trans hx113_2
        replace hx113_3 := (HB.out.cell (World.block_lt_of_cell? w _ hx113_3)).trans hx113_3
        replace hx113_4 := (HB.out.cell (World.block_lt_of_cell? w _ hx113_4)).trans hx113_4
        replace hx113_5 := (HB.out.cell (World.block_lt_of_cell? w _ hx113_5)).trans hx113_5
        replace hx113_6 := (HB.out.cell (World.block_lt_of_cell? w _ hx113_6)).trans hx113_6
        have HR113_5 := Az.mk hi113_5
        have HC113_5 := Az.mk hl113_5
        clear hi113_5 hl113_5
        have HR113_6 := Az.mk hi113_6
        have HC113_6 := Az.mk hl113_6
        clear hi113_6 hl113_6
        replace p113 := eq_true p113
        replace q113 := eq_true q113
        have p114 : 0 ≤ (x5_1 : Int) := of_decide_eq_true (by first | (with_reducible assumption) | assumption)
        have q114 : x5_1 < (l1.length : Int) := of_decide_eq_true (by first | (with_reducible assumption) | assumption)
        obtain ⟨ad114, A114_5, c114_5, A114_6, c114_6, e114, hx114_0, hx114_1, hx114_2, hx114_3, hx114_4, hx114_5, hx114_6, hl114_5, hi114_5, hl114_6, hi114_6⟩ := at_T50 HR1.out x5_1 p114 q114
        have hw114_6 := hx114_6
        have hw114_5 := hx114_5
        have hw114_4 := hx114_4
        have hw114_3 := hx114_3
        have hw114_2 := hx114_2
        have hw114_1 := hx114_1
        have hw114_0 := hx114_0
        cases e114
        replace hx114_0 := (HB.out.cell (World.block_lt_of_cell? w _ hx114_0)).trans hx114_0
        replace hx114_1 := (HB.out.cell (World.block_lt_of_cell? w _ hx114_1)).trans hx114_1
        replace hx114_2 := (HB.out.cell (World.block_lt_of_cell? w _ hx114_2)).trans hx114_2
        replace hx114_3 := (HB.out.cell (World.block_lt_of_cell? w _ hx114_3)).trans hx114_3
        replace hx114_4 := (HB.out.cell (World.block_lt_of_cell? w _ hx114_4)).trans hx114_4
        replace hx114_5 := (HB.out.cell (World.block_lt_of_cell? w _ hx114_5)).trans hx114_5
        replace hx114_6 := (HB.out.cell (World.block_lt_of_cell? w _ hx114_6)).trans hx114_6
        have HR114_5 := Az.mk hi114_5
        have HC114_5 := Az.mk hl114_5
        clear hi114_5 hl114_5
        have HR114_6 := Az.mk hi114_6
        have HC114_6 := Az.mk hl114_6
        clear hi114_6 hl114_6
        replace p114 := eq_true p114
        replace q114 := eq_true q114
        refine start_ (n := 10) (S := fun w' => w'.cell? (ad113.add ((x5_1).toNat * 7)) = some (.int .i64 ((rd_T50 l0 x5_1).f0)) ∧ w'.cell? ⟨(ad113.add ((x5_1).toNat * 7)).block, (ad113.add ((x5_1).toNat * 7)).off + 1, none⟩ = some (.int .i64 ((rd_T50 l0 x5_1).f1)) ∧ w'.cell? ⟨(ad113.add ((x5_1).toNat * 7)).block, (ad113.add ((x5_1).toNat * 7)).off + 2, none⟩ = some (.int .i64 ((rd_T50 l0 x5_1).f2)) ∧ w'.cell? ⟨(ad113.add ((x5_1).toNat * 7)).block, (ad113.add ((x5_1).toNat * 7)).off + 3, none⟩ = some (.int .i64 ((rd_T50 l0 x5_1).f3)) ∧ w'.cell? ⟨(ad113.add ((x5_1).toNat * 7)).block, (ad113.add ((x5_1).toNat * 7)).off + 4, none⟩ = some (.int .i64 ((rd_T50 l0 x5_1).f4)) ∧ w'.cell? ⟨(ad113.add ((x5_1).toNat * 7)).block, (ad113.add ((x5_1).toNat * 7)).off + 5, none⟩ = some (.slice A113_5 ((rd_T50 l0 x5_1).f5).length c113_5) ∧ w'.cell? ⟨(ad113.add ((x5_1).toNat * 7)).block, (ad113.add ((x5_1).toNat * 7)).off + 6, none⟩ = some (.slice A113_6 ((rd_T50 l0 x5_1).f6).length c113_6) ∧ w'.cell? (ad114.add ((x5_1).toNat * 7)) = some (.int .i64 ((rd_T50 l1 x5_1).f0)) ∧ w'.cell? ⟨(ad114.add ((x5_1).toNat * 7)).block, (ad114.add ((x5_1).toNat * 7)).off + 1, none⟩ = some (.int .i64 ((rd_T50 l1 x5_1).f1)) ∧ w'.cell? ⟨(ad114.add ((x5_1).toNat * 7)).block, (ad114.add ((x5_1).toNat * 7)).off + 2, none⟩ = some (.int .i64 ((rd_T50 l1 x5_1).f2)) ∧ w'.cell? ⟨(ad114.add ((x5_1).toNat * 7)).block, (ad114.add ((x5_1).toNat * 7)).off + 3, none⟩ = some (.int .i64 ((rd_T50 l1 x5_1).f3)) ∧ w'.cell? ⟨(ad114.add ((x5_1).toNat * 7)).block, (ad114.add ((x5_1).toNat * 7)).off + 4, none⟩ = some (.int .i64 ((rd_T50 l1 x5_1).f4)) ∧ w'.cell? ⟨(ad114.add ((x5_1).toNat * 7)).block, (ad114.add ((x5_1).toNat * 7)).off + 5, none⟩ = some (.slice A114_5 ((rd_T50 l1 x5_1).f5).length c114_5) ∧ w'.cell? ⟨(ad114.add ((x5_1).toNat * 7)).block, (ad114.add ((x5_1).toNat * 7)).off + 6, none⟩ = some (.slice A114_6 ((rd_T50 l1 x5_1).f6).length c114_6)) (ds := []) #[false, false, false, false, false, false, false, false, false, false] (by kernel_rfl) rfl rfl ⟨((HB.out.cell (World.block_lt_of_cell? w _ hw113_0)).trans hw113_0), ((HB.out.cell (World.block_lt_of_cell? w _ hw113_1)).trans hw113_1), ((HB.out.cell (World.block_lt_of_cell? w _ hw113_2)).trans hw113_2), ((HB.out.cell (World.block_lt_of_cell? w _ hw113_3)).trans hw113_3), ((HB.out.cell (World.block_lt_of_cell? w _ hw113_4)).trans hw113_4), ((HB.out.cell (World.block_lt_of_cell? w _ hw113_5)).trans hw113_5), ((HB.out.cell (World.block_lt_of_cell? w _ hw113_6)).trans hw113_6), ((HB.out.cell (World.block_lt_of_cell? w _ hw114_0)).trans hw114_0), ((HB.out.cell (World.block_lt_of_cell? w _ hw114_1)).trans hw114_1), ((HB.out.cell (World.block_lt_of_cell? w _ hw114_2)).trans hw114_2), ((HB.out.cell (World.block_lt_of_cell? w _ hw114_3)).trans hw114_3), ((HB.out.cell (World.block_lt_of_cell? w _ hw114_4)).trans hw114_4), ((HB.out.cell (World.block_lt_of_cell? w _ hw114_5)).trans hw114_5), ((HB.out.cell (World.block_lt_of_cell? w _ hw114_6)).trans hw114_6)⟩ (fun hHeld => ?_); refine with_tabW fugueref00_EqCode.tab6 fugueref00_EqCode.bits6 (fun HT_ HW_ => ?_)
        generalize wr.drew = w9 at HB HR113_5 HR113_6 HR114_5 HR114_6 hx113_0 hx113_1 hx113_2 hx113_3 hx113_4 hx113_5 hx113_6 hx114_0 hx114_1 hx114_2 hx114_3 hx114_4 hx114_5 hx114_6 hHeld ⊢
        refine pq 0 (some 18) HT_ rfl rfl (fun _ _ _ h => h) ?_
        refine pq 1 (some 19) HT_ rfl rfl (fun _ _ _ h => h) ?_
        refine pq 2 (some 20) HT_ rfl rfl (fun _ _ _ h => h) ?_
        refine pq 4 (some 22) HT_ rfl rfl (fun _ _ _ h => h) ?_
        refine pq 5 (some 23) HT_ rfl rfl (fun _ _ _ h => h) ?_
        refine pq 6 (some 24) HT_ rfl rfl (fun _ _ _ h => h) ?_
        refine pt 3 (some 21) (v := ?_) (a' := ?_) rfl rfl (take_ofW HT_.out HW_.out (by kernel_rfl)) (fun _ _ _ h => h) (Or.inl ⟨by rfl, ?_⟩) hHeld ?_ ?_
        rotate_left; (rintro w' ⟨s0, s1, s2, s3, s4, s5, s6, s7, s8, s9, s10, s11, s12, s13⟩; go_simp; with_reducible rfl); rotate_left; (simp only [Act.put, pn, i64_w, i32_w]; rfl)
        refine pt 7 (some 25) (v := ?_) (a' := ?_) rfl rfl (take_ofW HT_.out HW_.out (by kernel_rfl)) (fun _ _ _ h => h) (Or.inl ⟨by rfl, ?_⟩) hHeld ?_ ?_
        rotate_left; (rintro w' ⟨s0, s1, s2, s3, s4, s5, s6, s7, s8, s9, s10, s11, s12, s13⟩; go_simp; with_reducible rfl); rotate_left; (simp only [Act.put, pn, i64_w, i32_w]; rfl)
        refine one_ (i := 8) (N := some 26) #[true, true, true, true, true, true, true, true, true, false] rfl rfl (one_of HT_.out (by kernel_rfl)) (by decide) (fun K hK => ?_)
        refine goes_ Tryd.func106 (by kernel_rfl) rfl #[.agg #[.int .i64 ((rd_T50 l0 x5_1).f0), .int .i64 ((rd_T50 l0 x5_1).f1), .int .i64 ((rd_T50 l0 x5_1).f2), .int .i64 ((rd_T50 l0 x5_1).f3), .int .i64 ((rd_T50 l0 x5_1).f4), .slice A113_5 ((rd_T50 l0 x5_1).f5).length c113_5, .slice A113_6 ((rd_T50 l0 x5_1).f6).length c113_6], .agg #[.int .i64 ((rd_T50 l1 x5_1).f0), .int .i64 ((rd_T50 l1 x5_1).f1), .int .i64 ((rd_T50 l1 x5_1).f2), .int .i64 ((rd_T50 l1 x5_1).f3), .int .i64 ((rd_T50 l1 x5_1).f4), .slice A114_5 ((rd_T50 l1 x5_1).f5).length c114_5, .slice A114_6 ((rd_T50 l1 x5_1).f6).length c114_6]] (by rfl) rfl rfl (by (try simp only [List.map_toArray, List.map_cons, List.map_nil]); first | done | rfl | (simp only [List.length_drop, List.length_take]; rfl)) ?_
        with_reducible refine (fugueref00_EqInstr.calls k1 ((rd_T50 l0 x5_1).f0) ((rd_T50 l0 x5_1).f1) ((rd_T50 l0 x5_1).f2) ((rd_T50 l0 x5_1).f3) ((rd_T50 l0 x5_1).f4) _ _ ((rd_T50 l0 x5_1).f5) _ _ ((rd_T50 l0 x5_1).f6) ((rd_T50 l1 x5_1).f0) ((rd_T50 l1 x5_1).f1) ((rd_T50 l1 x5_1).f2) ((rd_T50 l1 x5_1).f3) ((rd_T50 l1 x5_1).f4) _ _ ((rd_T50 l1 x5_1).f5) _ _ ((rd_T50 l1 x5_1).f6) true rfl _ ?side1 ?side2 ?side3 ?side4 ?side5 ?side6 ?side7 ?side8 A7.out).mono ?_
        (case side1 => repeat (first | exact (Kd.C_below HR113_5.out HB.out) | (with_reducible refine Kd.C_alloc ?_ _) | (with_reducible refine Kd.C_drewN ?_ _) | (with_reducible refine Kd.C_drew ?_)))
        (case side2 => exact HC113_5.out)
        (case side3 => repeat (first | exact (Kd.C_below HR113_6.out HB.out) | (with_reducible refine Kd.C_alloc ?_ _) | (with_reducible refine Kd.C_drewN ?_ _) | (with_reducible refine Kd.C_drew ?_)))
        (case side4 => exact HC113_6.out)
        (case side5 => repeat (first | exact (Kd.C_below HR114_5.out HB.out) | (with_reducible refine Kd.C_alloc ?_ _) | (with_reducible refine Kd.C_drewN ?_ _) | (with_reducible refine Kd.C_drew ?_)))
        (case side6 => exact HC114_5.out)
        (case side7 => repeat (first | exact (Kd.C_below HR114_6.out HB.out) | (with_reducible refine Kd.C_alloc ?_ _) | (with_reducible refine Kd.C_drewN ?_ _) | (with_reducible refine Kd.C_drew ?_)))
        (case side8 => exact HC114_6.out)
        rintro e w10 ⟨rfl, hb⟩
        refine ⟨_, rfl, ?_⟩
        replace HB := Az.mk (tZ (by repeat (first | (with_reducible first | exact HB.out | apply lZ | apply pZ | apply dZ) | exact HB.out)) hb)
        (try clear hb)
        (try clear hb2)
        (try clear hk)
        (try clear hi)
        refine hK.out _ _ ⟨((HB.out.cell (World.block_lt_of_cell? w _ hw113_0)).trans hw113_0), ((HB.out.cell (World.block_lt_of_cell? w _ hw113_1)).trans hw113_1), ((HB.out.cell (World.block_lt_of_cell? w _ hw113_2)).trans hw113_2), ((HB.out.cell (World.block_lt_of_cell? w _ hw113_3)).trans hw113_3), ((HB.out.cell (World.block_lt_of_cell? w _ hw113_4)).trans hw113_4), ((HB.out.cell (World.block_lt_of_cell? w _ hw113_5)).trans hw113_5), ((HB.out.cell (World.block_lt_of_cell? w _ hw113_6)).trans hw113_6), ((HB.out.cell (World.block_lt_of_cell? w _ hw114_0)).trans hw114_0), ((HB.out.cell (World.block_lt_of_cell? w _ hw114_1)).trans hw114_1), ((HB.out.cell (World.block_lt_of_cell? w _ hw114_2)).trans hw114_2), ((HB.out.cell (World.block_lt_of_cell? w _ hw114_3)).trans hw114_3), ((HB.out.cell (World.block_lt_of_cell? w _ hw114_4)).trans hw114_4), ((HB.out.cell (World.block_lt_of_cell? w _ hw114_5)).trans hw114_5), ((HB.out.cell (World.block_lt_of_cell? w _ hw114_6)).trans hw114_6)⟩ (fun hHeld => ?_)
        clear hK K
        refine norm_ (a' := ?_) ?_ ?_
        rotate_left
        ·show Act.put _ (some 26) _ = _
         simp only [Act.put, pn, i64_w, i32_w]
         rfl
        refine pq 9 (some 6) HT_ rfl rfl (fun _ _ _ h => h) ?_
        refine done_ (done_of HT_.out (by kernel_rfl)) ?_
        try go_wp2
        go_roundg k1
        case measure => have := HK1.out; omega
        case rel => exact ⟨(wrap64 (x5_1 + 1)), (by first | rfl | (simp; done) | (simp [*]; done)), H', ⟨by have := HK1.out; omega⟩, ⟨by repeat (first | (with_reducible first | exact HB.out | apply lZ | apply pZ | apply dZ) | exact HB.out)⟩⟩
       ·replace c8 := Bool.eq_false_iff.mpr c8
        subst c8
        have H1 : (some false) = some r := by rw [if_neg (show ¬ (false = true) by decide)] at H; exact H
        rw [Option.some.injEq] at H1; subst H1; cases hr_
      ·rw [if_neg c6] at H
       exact absurd H (by simp)
     ·rw [if_neg c5] at H
      exact absurd H (by simp)
    ·rw [if_neg c4] at H
     have c4b0 : decide (x5_1 < (l0.length : Int)) = false := decide_eq_false c4
     clear c4
     obtain rfl := Option.some.inj H
     go_wp2
     go_ret
     exact ⟨by first | rfl | (simp [errW_none, errW_some] <;> rfl) | (simp [*, errW_none, errW_some] <;> rfl), by repeat (first | (with_reducible first | exact HB.out | apply lZ | apply pZ | apply dZ) | exact HB.out)⟩
 ·rw [if_neg c3] at H
  rw [Option.some.injEq] at H; subst H; cases hr_
def fugueref00_EqFunc.f (k : Nat) (a0_0 : Int) (a0_1 : Int) (a0_2 : Int) (l0_3 : List (S50)) (a1_0 : Int) (a1_1 : Int) (a1_2 : Int) (l1_3 : List (S50)) : Option (Bool) := if a0_0 = a1_0 then (if a0_1 = a1_1 then (if a0_2 = a1_2 then ((fugueref00_EqCode.f k l0_3 l1_3).bind fun t118 => (some t118)) else (some false)) else (some false)) else (some false)
theorem fugueref00_EqFunc.mono : ∀ a0 a1 a2 a3 a4 a5 a6 a7 k, LeO (fugueref00_EqFunc.f k a0 a1 a2 a3 a4 a5 a6 a7) (fugueref00_EqFunc.f (k + 1) a0 a1 a2 a3 a4 a5 a6 a7) := by
 intro a0 a1 a2 a3 a4 a5 a6 a7 k
 unfold fugueref00_EqFunc.f
 repeat' first
   | (with_reducible exact fugueref00_EqCode.mono _ _ _)
   | (with_reducible exact LeO.refl _)
   | (with_reducible exact LeO.none _)
   | (with_reducible refine LeO.ite ?_ ?_)
   | (with_reducible refine LeO.bind ?_ (fun _ => ?_))
   | exact fugueref00_EqCode.mono _ _ _
   | exact LeO.none _
   | refine LeO.ite ?_ ?_
   | refine LeO.bind ?_ (fun _ => ?_)
set_option maxHeartbeats 8000000 in
set_option maxRecDepth 100000 in
theorem fugueref00_EqFunc.calls (k : Nat) (a0_0 : Int) (a0_1 : Int) (a0_2 : Int) (A0_3 : Option Addr) (c0_3 : Nat) (l0_3 : List (S50)) (a1_0 : Int) (a1_1 : Int) (a1_2 : Int) (A1_3 : Option Addr) (c1_3 : Nat) (l1_3 : List (S50)) (r : Bool) (hr_ : r = true) (w : World) (hr0_3 : Kd.C k50 w A0_3 l0_3.length l0_3) (hc0_3 : l0_3.length ≤ c0_3) (hr1_3 : Kd.C k50 w A1_3 l1_3.length l1_3) (hc1_3 : l1_3.length ≤ c1_3) (h : fugueref00_EqFunc.f k a0_0 a0_1 a0_2 l0_3 a1_0 a1_1 a1_2 l1_3 = some r) :
  Calls Tryd.prog 60 #[.agg #[.int .i64 a0_0, .int .i64 a0_1, .int .i64 a0_2, .slice A0_3 l0_3.length c0_3], .agg #[.int .i64 a1_0, .int .i64 a1_1, .int .i64 a1_2, .slice A1_3 l1_3.length c1_3]] w fun e w' => e = .returned (.bool r) ∧ Below w.heap.size w w' := by
 have hu46 := Tryd.underlying46
 have HR0_3 := Az.mk hr0_3
 have HC0_3 := Az.mk hc0_3
 clear hr0_3 hc0_3
 have HR1_3 := Az.mk hr1_3
 have HC1_3 := Az.mk hc1_3
 clear hr1_3 hc1_3
 have HB := Az.mk (Below.refl w.heap.size w)
 have H : (if a0_0 = a1_0 then (if a0_1 = a1_1 then (if a0_2 = a1_2 then ((fugueref00_EqCode.f k l0_3 l1_3).bind fun t118 => (some t118)) else (some false)) else (some false)) else (some false)) = some r := h
 clear h
 by_cases c3 : a0_0 = a1_0
 ·rw [if_pos c3] at H
  have c3b0 : (a0_0 == a1_0) = true := beq_iff_eq.mpr c3
  have c3b1 : (a0_0 != a1_0) = false := bne_eq_false_iff_eq.mpr c3
  clear c3
  by_cases c4 : a0_1 = a1_1
  ·rw [if_pos c4] at H
   have c4b0 : (a0_1 == a1_1) = true := beq_iff_eq.mpr c4
   have c4b1 : (a0_1 != a1_1) = false := bne_eq_false_iff_eq.mpr c4
   clear c4
   by_cases c5 : a0_2 = a1_2
   ·rw [if_pos c5] at H
    have c5b0 : (a0_2 == a1_2) = true := beq_iff_eq.mpr c5
    have c5b1 : (a0_2 != a1_2) = false := bne_eq_false_iff_eq.mpr c5
    clear c5
    replace H := Option.bind_eq_some_iff.mp H
    obtain ⟨t118, A60, H⟩ := H
    replace H : (some t118) = some r := H
    have A6 := Az.mk A60
    clear A60
    obtain rfl := Option.some.inj H
    go_enter Tryd.func60, Tryd.ntmps60
    go_wp2_with (first | ((with_reducible refine gate_dst (N := 2) rfl ?_); refine box_event ?hg (N := 2) ?hd (cs := #[.int .i64 a0_0, .int .i64 a0_1, .int .i64 a0_2, .slice A0_3 l0_3.length c0_3]) (t := 46) ?hr ?_; (case hd => rfl); (case hg => rfl); (case hr => first | (go_simp; done) | (go_simp; rfl)); intro gb116 hg w7 hbox hb; have n0_ := Az.mk (tZ (by repeat (first | (with_reducible first | exact HB.out | apply lZ | apply pZ | apply dZ) | exact HB.out)) hb); have n1_ := Az.mk (hbox); have n2_ := Az.mk ((by rw [hg]; exact (zZ (by repeat (first | (with_reducible first | exact HB.out | apply lZ | apply pZ | apply dZ) | exact HB.out))) : w.heap.size ≤ gb116)); have n3_ := Az.mk ((by rw [hg]; exact (zZ (by repeat (first | (with_reducible first | exact HB.out | apply lZ | apply pZ | apply dZ) | exact HB.out))) : w.heap.size ≤ gb116)); clear HB; have HB := n0_; have BK116 := n1_; have GW116 := n2_; have GE116 := n3_; clear n0_ n1_ n2_ n3_; clear hb hbox hg) | ((with_reducible refine gate_dst (N := 3) rfl ?_); refine box_event ?hg (N := 3) ?hd (cs := #[.int .i64 a1_0, .int .i64 a1_1, .int .i64 a1_2, .slice A1_3 l1_3.length c1_3]) (t := 46) ?hr ?_; (case hd => rfl); (case hg => rfl); (case hr => first | (go_simp; done) | (go_simp; rfl)); intro gb117 hg w8 hbox hb; have n0_ := Az.mk (kZ (g := gb116) (o := .cells #[.int .i64 a0_0, .int .i64 a0_1, .int .i64 a0_2, .slice A0_3 l0_3.length c0_3] 46 (0, 0)) (by (with_reducible repeat (first | refine blk_drewN ?_ _ | refine wZ ?_ | refine aZ ?_ _)); exact BK116.out) hb); have n1_ := Az.mk (tZ (by repeat (first | (with_reducible first | exact HB.out | apply lZ | apply pZ | apply dZ | refine sZ ?_ GE116.out) | exact HB.out)) hb); have n2_ := Az.mk (hbox); have n3_ := Az.mk ((by rw [hg]; exact (zZ (by repeat (first | (with_reducible first | exact HB.out | apply lZ | apply pZ | apply dZ | refine sZ ?_ GE116.out) | exact HB.out))) : w.heap.size ≤ gb117)); have n4_ := Az.mk ((by rw [hg]; exact (zZ (by repeat (first | (with_reducible first | exact HB.out | apply lZ | apply pZ | apply dZ | refine sZ ?_ GE116.out) | exact HB.out))) : w.heap.size ≤ gb117)); have n5_ := Az.mk ((by rw [hg]; exact Nat.ne_of_lt (blk_lt (g := gb116) (o := .cells #[.int .i64 a0_0, .int .i64 a0_1, .int .i64 a0_2, .slice A0_3 l0_3.length c0_3] 46 (0, 0)) (by (with_reducible repeat (first | refine blk_drewN ?_ _ | refine wZ ?_ | refine aZ ?_ _)); exact BK116.out)) : gb116 ≠ gb117)); have n6_ := Az.mk ((by rw [hg]; exact Nat.ne_of_gt (blk_lt (g := gb116) (o := .cells #[.int .i64 a0_0, .int .i64 a0_1, .int .i64 a0_2, .slice A0_3 l0_3.length c0_3] 46 (0, 0)) (by (with_reducible repeat (first | refine blk_drewN ?_ _ | refine wZ ?_ | refine aZ ?_ _)); exact BK116.out)) : gb117 ≠ gb116)); clear BK116; clear HB; have BK116 := n0_; have HB := n1_; have BK117 := n2_; have GW117 := n3_; have GE117 := n4_; have NB116_117 := n5_; have NB117_116 := n6_; clear n0_ n1_ n2_ n3_ n4_ n5_ n6_; clear hb hbox hg; have hnb9 := NB116_117.out; have hnc9 := NB117_116.out; have hcz10_0 : w8.cell? ⟨gb116, 0, none⟩ = some (.int .i64 a0_0) := (bZ BK116.out 0).trans rfl; have hcz10_1 : w8.cell? ⟨gb116, 1, none⟩ = some (.int .i64 a0_1) := (bZ BK116.out 1).trans rfl; have hcz10_2 : w8.cell? ⟨gb116, 2, none⟩ = some (.int .i64 a0_2) := (bZ BK116.out 2).trans rfl; have hcz10_3 : w8.cell? ⟨gb116, 3, none⟩ = some (.slice A0_3 l0_3.length c0_3) := (bZ BK116.out 3).trans rfl; have hfz10_0 := fZ BK116.out 0; have hfz10_1 := fZ BK116.out 1; have hfz10_2 := fZ BK116.out 2; have hfz10_3 := fZ BK116.out 3; have hcz11_0 : w8.cell? ⟨gb117, 0, none⟩ = some (.int .i64 a1_0) := (bZ BK117.out 0).trans rfl; have hcz11_1 : w8.cell? ⟨gb117, 1, none⟩ = some (.int .i64 a1_1) := (bZ BK117.out 1).trans rfl; have hcz11_2 : w8.cell? ⟨gb117, 2, none⟩ = some (.int .i64 a1_2) := (bZ BK117.out 2).trans rfl; have hcz11_3 : w8.cell? ⟨gb117, 3, none⟩ = some (.slice A1_3 l1_3.length c1_3) := (bZ BK117.out 3).trans rfl; have hfz11_0 := fZ BK117.out 0; have hfz11_1 := fZ BK117.out 1; have hfz11_2 := fZ BK117.out 2; have hfz11_3 := fZ BK117.out 3) | (go_at_call 93; (with_reducible refine (fugueref00_EqCode.calls k _ _ l0_3 _ _ l1_3 t118 hr_ _ ?side1 ?side2 ?side3 ?side4 A6.out).mono ?_); (case side1 => repeat (first | exact (Kd.C_below HR0_3.out HB.out) | (with_reducible refine Kd.C_alloc ?_ _) | (with_reducible refine Kd.C_drewN ?_ _) | (with_reducible refine Kd.C_drew ?_))); (case side2 => exact HC0_3.out); (case side3 => repeat (first | exact (Kd.C_below HR1_3.out HB.out) | (with_reducible refine Kd.C_alloc ?_ _) | (with_reducible refine Kd.C_drewN ?_ _) | (with_reducible refine Kd.C_drew ?_))); (case side4 => exact HC1_3.out); rintro e w12 ⟨rfl, hb⟩; replace BK116 := Az.mk (kZ (g := gb116) (o := .cells #[.int .i64 a0_0, .int .i64 a0_1, .int .i64 a0_2, .slice A0_3 l0_3.length c0_3] 46 (0, 0)) (by (with_reducible repeat (first | refine blk_drewN ?_ _ | refine wZ ?_ | refine aZ ?_ _)); exact BK116.out) hb); replace BK117 := Az.mk (kZ (g := gb117) (o := .cells #[.int .i64 a1_0, .int .i64 a1_1, .int .i64 a1_2, .slice A1_3 l1_3.length c1_3] 46 (0, 0)) (by (with_reducible repeat (first | refine blk_drewN ?_ _ | refine wZ ?_ | refine aZ ?_ _)); exact BK117.out) hb); replace HB := Az.mk (tZ (by repeat (first | (with_reducible first | exact HB.out | apply lZ | apply pZ | apply dZ | refine sZ ?_ GE116.out | refine sZ ?_ GE117.out) | exact HB.out)) hb); (try clear hb); (try clear hb2); (try clear hk); (try clear hi)))
    go_ret
    exact ⟨by first | rfl | (simp [errW_none, errW_some] <;> rfl) | (simp [*, errW_none, errW_some] <;> rfl), by repeat (first | (with_reducible first | exact HB.out | apply lZ | apply pZ | apply dZ | refine sZ ?_ GE116.out | refine sZ ?_ GE117.out) | exact HB.out)⟩
   ·rw [if_neg c5] at H
    rw [Option.some.injEq] at H; subst H; cases hr_
  ·rw [if_neg c4] at H
   rw [Option.some.injEq] at H; subst H; cases hr_
 ·rw [if_neg c3] at H
  rw [Option.some.injEq] at H; subst H; cases hr_
end Go.Proofs.YteonppgdmhakoaaDoor.PC
namespace Go.Proofs.YteonppgdmhakoaaDoor.PC
open Go.RowKit Go.Proofs.YteonppgdmhakoaaDoorW.PrintWords Go.Proofs.YteonppgdmhakoaaDoorW.PrintLast Go.Proofs.YteonppgdmhakoaaDoorW.PrintMore
attribute [local go_sem] max2_int min2_int max_two min_two max_three min_three max_four min_four
set_option linter.unusedVariables false
set_option linter.unusedSimpArgs false
def fugueref00_EqFuncs.l0 : Nat → List (S46) → List (S46) → Int → Option (Bool)
 | 0, _, _, _ => none
 | k + 1, x0, x1, x5 => if x5 < (x0.length : Int) then (if 0 ≤ x5 then (if x5 < (x1.length : Int) then ((fugueref00_EqFunc.f k ((rd_T46 x0 x5).f0) ((rd_T46 x0 x5).f1) ((rd_T46 x0 x5).f2) ((rd_T46 x0 x5).f3) ((rd_T46 x1 x5).f0) ((rd_T46 x1 x5).f1) ((rd_T46 x1 x5).f2) ((rd_T46 x1 x5).f3)).bind fun t121 => (if t121 = true then (fugueref00_EqFuncs.l0 k x0 x1 (wrap64 (x5 + 1))) else (some false))) else (none)) else (none)) else (some true)
def fugueref00_EqFuncs.f (k : Nat) (l0 : List (S46)) (l1 : List (S46)) : Option (Bool) := if (l0.length : Int) = (l1.length : Int) then (fugueref00_EqFuncs.l0 k l0 l1 0) else (some false)
theorem fugueref00_EqFuncs.mono_l : ∀ k, (∀ y0 y1 y2, LeO (fugueref00_EqFuncs.l0 k y0 y1 y2) (fugueref00_EqFuncs.l0 (k + 1) y0 y1 y2))
 | 0 => fun _ _ _ r h => by simp [fugueref00_EqFuncs.l0] at h
 | k + 1 => by
  have ih0 := fugueref00_EqFuncs.mono_l k
  ·intro y0 y1 y2
   unfold fugueref00_EqFuncs.l0
   repeat' first
   | (with_reducible exact ih0 _ _ _)
   | (with_reducible exact fugueref00_EqFunc.mono _ _ _ _ _ _ _ _ _)
   | (with_reducible exact LeO.refl _)
   | (with_reducible exact LeO.none _)
   | (with_reducible refine LeO.ite ?_ ?_)
   | (with_reducible refine LeO.bind ?_ (fun _ => ?_))
   | exact ih0 _ _ _
   | exact fugueref00_EqFunc.mono _ _ _ _ _ _ _ _ _
   | exact LeO.none _
   | refine LeO.ite ?_ ?_
   | refine LeO.bind ?_ (fun _ => ?_)
theorem fugueref00_EqFuncs.mono : ∀ a0 a1 k, LeO (fugueref00_EqFuncs.f k a0 a1) (fugueref00_EqFuncs.f (k + 1) a0 a1) := by
 intro a0 a1 k
 have ih0 := fugueref00_EqFuncs.mono_l k
 unfold fugueref00_EqFuncs.f
 repeat' first
   | (with_reducible exact ih0 _ _ _)
   | (with_reducible exact fugueref00_EqFunc.mono _ _ _ _ _ _ _ _ _)
   | (with_reducible exact LeO.refl _)
   | (with_reducible exact LeO.none _)
   | (with_reducible refine LeO.ite ?_ ?_)
   | (with_reducible refine LeO.bind ?_ (fun _ => ?_))
   | exact ih0 _ _ _
   | exact fugueref00_EqFunc.mono _ _ _ _ _ _ _ _ _
   | exact LeO.none _
   | refine LeO.ite ?_ ?_
   | refine LeO.bind ?_ (fun _ => ?_)
def fugueref00_EqFuncs.T6 : Bool × List (List Nat × List Nat) := (true, [([], []), ([], []), ([0, 1], [0, 1]), ([2], [2]), ([], []), ([], []), ([4, 5], [4, 5]), ([6], [6]), ([3, 7], [3, 7]), ([8, 8, 0, 1, 2, 3, 4, 5, 6, 7, 8], [8])])
def fugueref00_EqFuncs.B6 : List Nat := [0, 0, 3, 7, 0, 0, 48, 112, 255, 511]
theorem fugueref00_EqFuncs.tab6 : rtab .any (opsOf Tryd.f32 6) = fugueref00_EqFuncs.T6 := by kernel_rfl
theorem fugueref00_EqFuncs.bits6 : waitsOk fugueref00_EqFuncs.T6.2 fugueref00_EqFuncs.B6 = true := by kernel_rfl
set_option maxHeartbeats 8000000 in
set_option maxRecDepth 100000 in
theorem fugueref00_EqFuncs.calls (k : Nat) (A0 : Option Addr) (c0 : Nat) (l0 : List (S46)) (A1 : Option Addr) (c1 : Nat) (l1 : List (S46)) (r : Bool) (hr_ : r = true) (w : World) (hr0 : Kd.C k46 w A0 l0.length l0) (hc0 : l0.length ≤ c0) (hr1 : Kd.C k46 w A1 l1.length l1) (hc1 : l1.length ≤ c1) (h : fugueref00_EqFuncs.f k l0 l1 = some r) :
  Calls Tryd.prog 32 #[.slice A0 l0.length c0, .slice A1 l1.length c1] w fun e w' => e = .returned (.bool r) ∧ Below w.heap.size w w' := by
 have hu46 := Tryd.underlying46
 have HR0 := Az.mk hr0
 have HC0 := Az.mk hc0
 clear hr0 hc0
 have HR1 := Az.mk hr1
 have HC1 := Az.mk hc1
 clear hr1 hc1
 have HB := Az.mk (Below.refl w.heap.size w)
 have H : (if (l0.length : Int) = (l1.length : Int) then (fugueref00_EqFuncs.l0 k l0 l1 0) else (some false)) = some r := h
 clear h
 by_cases c3 : (l0.length : Int) = (l1.length : Int)
 ·rw [if_pos c3] at H
  have c3b0 : ((l0.length : Int) == (l1.length : Int)) = true := beq_iff_eq.mpr c3
  have c3b1 : ((l0.length : Int) != (l1.length : Int)) = false := bne_eq_false_iff_eq.mpr c3
  have c3b2 : (l0.length == l1.length) = true := by first | simpa using c3 | (simp at c3 ⊢; omega)
  clear c3
  have H' := Az.mk H
  clear H
  go_enter Tryd.func32, Tryd.ntmps32
  go_wp2
  go_loopg [5] k (fun kq v5 w' => ∃ (x5_1 : Int), v5 = .int .i64 x5_1 ∧ Az (fugueref00_EqFuncs.l0 kq l0 l1 x5_1 = some r) ∧ Az (kq ≤ k) ∧ Az (Below w.heap.size w w'))
  case atStart => exact ⟨(0), (by first | rfl | (simp; done) | (simp [*]; done)), H', ⟨Nat.le_refl _⟩, ⟨by repeat (first | (with_reducible first | exact HB.out | apply lZ | apply pZ | apply dZ) | exact HB.out)⟩⟩
  case round =>
   clear H'
   try clear c1
   try clear p2
   try clear c3
   try clear c3b0
   try clear c3b1
   try clear c3b2
   obtain ⟨x5_1, rfl, HA, HK1, HB⟩ := hrel
   cases gk with
   | zero => exact absurd HA.out (by simp [fugueref00_EqFuncs.l0])
   | succ k1 =>
    have H := HA.out
    clear HA
    simp only [fugueref00_EqFuncs.l0] at H
    by_cases c4 : x5_1 < (l0.length : Int)
    ·rw [if_pos c4] at H
     have c4b0 : decide (x5_1 < (l0.length : Int)) = true := decide_eq_true c4
     clear c4
     by_cases c5 : 0 ≤ x5_1
     ·rw [if_pos c5] at H
      have c5b0 : decide (0 ≤ x5_1) = true := decide_eq_true c5
      clear c5
      by_cases c6 : x5_1 < (l1.length : Int)
      ·rw [if_pos c6] at H
       have c6b0 : decide (x5_1 < (l1.length : Int)) = true := decide_eq_true c6
       clear c6
       replace H := Option.bind_eq_some_iff.mp H
       obtain ⟨t121, A70, H⟩ := H
       replace H : (if t121 = true then (fugueref00_EqFuncs.l0 k1 l0 l1 (wrap64 (x5_1 + 1))) else (some false)) = some r := H
       have A7 := Az.mk A70
       clear A70
       by_cases c8 : t121 = true
       ·subst c8
        have H1 : (fugueref00_EqFuncs.l0 k1 l0 l1 (wrap64 (x5_1 + 1))) = some r := by rw [if_pos rfl] at H; exact H
        clear H
        have H := H1
        clear H1
        have H' := Az.mk H
        clear H
        try go_wp2
        replace HB := Az.mk (dZ HB.out)
        have p119 : 0 ≤ (x5_1 : Int) := of_decide_eq_true (by first | (with_reducible assumption) | assumption)
        have q119 : x5_1 < (l0.length : Int) := of_decide_eq_true (by first | (with_reducible assumption) | assumption)
        obtain ⟨ad119, A119_3, c119_3, e119, hx119_0, hx119_1, hx119_2, hx119_3, hl119_3, hi119_3⟩ := at_T46 HR0.out x5_1 p119 q119
        have hw119_3 := hx119_3
        have hw119_2 := hx119_2
        have hw119_1 := hx119_1
        have hw119_0 := hx119_0
        cases e119
        replace hx119_0 := (HB.out.cell (World.block_lt_of_cell? w _ hx119_0)).trans hx119_0
        replace hx119_1 := (HB.out.cell (World.block_lt_of_cell? w _ hx119_1)).trans hx119_1
        replace hx119_2 := (HB.out.cell (World.block_lt_of_cell? w _ hx119_2)).trans hx119_2
        replace hx119_3 := (HB.out.cell (World.block_lt_of_cell? w _ hx119_3)).trans hx119_3
        have HR119_3 := Az.mk hi119_3
        have HC119_3 := Az.mk hl119_3
        clear hi119_3 hl119_3
        replace p119 := eq_true p119
        replace q119 := eq_true q119
        have p120 : 0 ≤ (x5_1 : Int) := of_decide_eq_true (by first | (with_reducible assumption) | assumption)
        have q120 : x5_1 < (l1.length : Int) := of_decide_eq_true (by first | (with_reducible assumption) | assumption)
        obtain ⟨ad120, A120_3, c120_3, e120, hx120_0, hx120_1, hx120_2, hx120_3, hl120_3, hi120_3⟩ := at_T46 HR1.out x5_1 p120 q120
        have hw120_3 := hx120_3
        have hw120_2 := hx120_2
        have hw120_1 := hx120_1
        have hw120_0 := hx120_0
        cases e120
        replace hx120_0 := (HB.out.cell (World.block_lt_of_cell? w _ hx120_0)).trans hx120_0
        replace hx120_1 := (HB.out.cell (World.block_lt_of_cell? w _ hx120_1)).trans hx120_1
        replace hx120_2 := (HB.out.cell (World.block_lt_of_cell? w _ hx120_2)).trans hx120_2
        replace hx120_3 := (HB.out.cell (World.block_lt_of_cell? w _ hx120_3)).trans hx120_3
        have HR120_3 := Az.mk hi120_3
        have HC120_3 := Az.mk hl120_3
        clear hi120_3 hl120_3
        replace p120 := eq_true p120
        replace q120 := eq_true q120
        refine start_ (n := 10) (S := fun w' => w'.cell? (ad119.add ((x5_1).toNat * 4)) = some (.int .i64 ((rd_T46 l0 x5_1).f0)) ∧ w'.cell? ⟨(ad119.add ((x5_1).toNat * 4)).block, (ad119.add ((x5_1).toNat * 4)).off + 1, none⟩ = some (.int .i64 ((rd_T46 l0 x5_1).f1)) ∧ w'.cell? ⟨(ad119.add ((x5_1).toNat * 4)).block, (ad119.add ((x5_1).toNat * 4)).off + 2, none⟩ = some (.int .i64 ((rd_T46 l0 x5_1).f2)) ∧ w'.cell? ⟨(ad119.add ((x5_1).toNat * 4)).block, (ad119.add ((x5_1).toNat * 4)).off + 3, none⟩ = some (.slice A119_3 ((rd_T46 l0 x5_1).f3).length c119_3) ∧ w'.cell? (ad120.add ((x5_1).toNat * 4)) = some (.int .i64 ((rd_T46 l1 x5_1).f0)) ∧ w'.cell? ⟨(ad120.add ((x5_1).toNat * 4)).block, (ad120.add ((x5_1).toNat * 4)).off + 1, none⟩ = some (.int .i64 ((rd_T46 l1 x5_1).f1)) ∧ w'.cell? ⟨(ad120.add ((x5_1).toNat * 4)).block, (ad120.add ((x5_1).toNat * 4)).off + 2, none⟩ = some (.int .i64 ((rd_T46 l1 x5_1).f2)) ∧ w'.cell? ⟨(ad120.add ((x5_1).toNat * 4)).block, (ad120.add ((x5_1).toNat * 4)).off + 3, none⟩ = some (.slice A120_3 ((rd_T46 l1 x5_1).f3).length c120_3)) (ds := []) #[false, false, false, false, false, false, false, false, false, false] (by kernel_rfl) rfl rfl ⟨((HB.out.cell (World.block_lt_of_cell? w _ hw119_0)).trans hw119_0), ((HB.out.cell (World.block_lt_of_cell? w _ hw119_1)).trans hw119_1), ((HB.out.cell (World.block_lt_of_cell? w _ hw119_2)).trans hw119_2), ((HB.out.cell (World.block_lt_of_cell? w _ hw119_3)).trans hw119_3), ((HB.out.cell (World.block_lt_of_cell? w _ hw120_0)).trans hw120_0), ((HB.out.cell (World.block_lt_of_cell? w _ hw120_1)).trans hw120_1), ((HB.out.cell (World.block_lt_of_cell? w _ hw120_2)).trans hw120_2), ((HB.out.cell (World.block_lt_of_cell? w _ hw120_3)).trans hw120_3)⟩ (fun hHeld => ?_); refine with_tabW fugueref00_EqFuncs.tab6 fugueref00_EqFuncs.bits6 (fun HT_ HW_ => ?_)
        generalize wr.drew = w9 at HB HR119_3 HR120_3 hx119_0 hx119_1 hx119_2 hx119_3 hx120_0 hx120_1 hx120_2 hx120_3 hHeld ⊢
        refine pq 0 (some 18) HT_ rfl rfl (fun _ _ _ h => h) ?_
        refine pq 1 (some 19) HT_ rfl rfl (fun _ _ _ h => h) ?_
        refine pq 2 (some 20) HT_ rfl rfl (fun _ _ _ h => h) ?_
        refine pq 4 (some 22) HT_ rfl rfl (fun _ _ _ h => h) ?_
        refine pq 5 (some 23) HT_ rfl rfl (fun _ _ _ h => h) ?_
        refine pq 6 (some 24) HT_ rfl rfl (fun _ _ _ h => h) ?_
        refine pt 3 (some 21) (v := ?_) (a' := ?_) rfl rfl (take_ofW HT_.out HW_.out (by kernel_rfl)) (fun _ _ _ h => h) (Or.inl ⟨by rfl, ?_⟩) hHeld ?_ ?_
        rotate_left; (rintro w' ⟨s0, s1, s2, s3, s4, s5, s6, s7⟩; go_simp; with_reducible rfl); rotate_left; (simp only [Act.put, pn, i64_w, i32_w]; rfl)
        refine pt 7 (some 25) (v := ?_) (a' := ?_) rfl rfl (take_ofW HT_.out HW_.out (by kernel_rfl)) (fun _ _ _ h => h) (Or.inl ⟨by rfl, ?_⟩) hHeld ?_ ?_
        rotate_left; (rintro w' ⟨s0, s1, s2, s3, s4, s5, s6, s7⟩; go_simp; with_reducible rfl); rotate_left; (simp only [Act.put, pn, i64_w, i32_w]; rfl)
        refine one_ (i := 8) (N := some 26) #[true, true, true, true, true, true, true, true, true, false] rfl rfl (one_of HT_.out (by kernel_rfl)) (by decide) (fun K hK => ?_)
        refine goes_ Tryd.func60 (by kernel_rfl) rfl #[.agg #[.int .i64 ((rd_T46 l0 x5_1).f0), .int .i64 ((rd_T46 l0 x5_1).f1), .int .i64 ((rd_T46 l0 x5_1).f2), .slice A119_3 ((rd_T46 l0 x5_1).f3).length c119_3], .agg #[.int .i64 ((rd_T46 l1 x5_1).f0), .int .i64 ((rd_T46 l1 x5_1).f1), .int .i64 ((rd_T46 l1 x5_1).f2), .slice A120_3 ((rd_T46 l1 x5_1).f3).length c120_3]] (by rfl) rfl rfl (by (try simp only [List.map_toArray, List.map_cons, List.map_nil]); first | done | rfl | (simp only [List.length_drop, List.length_take]; rfl)) ?_
        with_reducible refine (fugueref00_EqFunc.calls k1 ((rd_T46 l0 x5_1).f0) ((rd_T46 l0 x5_1).f1) ((rd_T46 l0 x5_1).f2) _ _ ((rd_T46 l0 x5_1).f3) ((rd_T46 l1 x5_1).f0) ((rd_T46 l1 x5_1).f1) ((rd_T46 l1 x5_1).f2) _ _ ((rd_T46 l1 x5_1).f3) true rfl _ ?side1 ?side2 ?side3 ?side4 A7.out).mono ?_
        (case side1 => repeat (first | exact (Kd.C_below HR119_3.out HB.out) | (with_reducible refine Kd.C_alloc ?_ _) | (with_reducible refine Kd.C_drewN ?_ _) | (with_reducible refine Kd.C_drew ?_)))
        (case side2 => exact HC119_3.out)
        (case side3 => repeat (first | exact (Kd.C_below HR120_3.out HB.out) | (with_reducible refine Kd.C_alloc ?_ _) | (with_reducible refine Kd.C_drewN ?_ _) | (with_reducible refine Kd.C_drew ?_)))
        (case side4 => exact HC120_3.out)
        rintro e w10 ⟨rfl, hb⟩
        refine ⟨_, rfl, ?_⟩
        replace HB := Az.mk (tZ (by repeat (first | (with_reducible first | exact HB.out | apply lZ | apply pZ | apply dZ) | exact HB.out)) hb)
        (try clear hb)
        (try clear hb2)
        (try clear hk)
        (try clear hi)
        refine hK.out _ _ ⟨((HB.out.cell (World.block_lt_of_cell? w _ hw119_0)).trans hw119_0), ((HB.out.cell (World.block_lt_of_cell? w _ hw119_1)).trans hw119_1), ((HB.out.cell (World.block_lt_of_cell? w _ hw119_2)).trans hw119_2), ((HB.out.cell (World.block_lt_of_cell? w _ hw119_3)).trans hw119_3), ((HB.out.cell (World.block_lt_of_cell? w _ hw120_0)).trans hw120_0), ((HB.out.cell (World.block_lt_of_cell? w _ hw120_1)).trans hw120_1), ((HB.out.cell (World.block_lt_of_cell? w _ hw120_2)).trans hw120_2), ((HB.out.cell (World.block_lt_of_cell? w _ hw120_3)).trans hw120_3)⟩ (fun hHeld => ?_)
        clear hK K
        refine norm_ (a' := ?_) ?_ ?_
        rotate_left
        ·show Act.put _ (some 26) _ = _
         simp only [Act.put, pn, i64_w, i32_w]
         rfl
        refine pq 9 (some 6) HT_ rfl rfl (fun _ _ _ h => h) ?_
        refine done_ (done_of HT_.out (by kernel_rfl)) ?_
        try go_wp2
        go_roundg k1
        case measure => have := HK1.out; omega
        case rel => exact ⟨(wrap64 (x5_1 + 1)), (by first | rfl | (simp; done) | (simp [*]; done)), H', ⟨by have := HK1.out; omega⟩, ⟨by repeat (first | (with_reducible first | exact HB.out | apply lZ | apply pZ | apply dZ) | exact HB.out)⟩⟩
       ·replace c8 := Bool.eq_false_iff.mpr c8
        subst c8
        have H1 : (some false) = some r := by rw [if_neg (show ¬ (false = true) by decide)] at H; exact H
        rw [Option.some.injEq] at H1; subst H1; cases hr_
      ·rw [if_neg c6] at H
       exact absurd H (by simp)
     ·rw [if_neg c5] at H
      exact absurd H (by simp)
    ·rw [if_neg c4] at H
     have c4b0 : decide (x5_1 < (l0.length : Int)) = false := decide_eq_false c4
     clear c4
     obtain rfl := Option.some.inj H
     go_wp2
     go_ret
     exact ⟨by first | rfl | (simp [errW_none, errW_some] <;> rfl) | (simp [*, errW_none, errW_some] <;> rfl), by repeat (first | (with_reducible first | exact HB.out | apply lZ | apply pZ | apply dZ) | exact HB.out)⟩
 ·rw [if_neg c3] at H
  rw [Option.some.injEq] at H; subst H; cases hr_
def fugueref00_EqProgram.f (k : Nat) (a0_0 : Int) (l0_1 : List (S46)) (a1_0 : Int) (l1_1 : List (S46)) : Option (Bool) := if a0_0 = a1_0 then ((fugueref00_EqFuncs.f k l0_1 l1_1).bind fun t124 => (some t124)) else (some false)
theorem fugueref00_EqProgram.mono : ∀ a0 a1 a2 a3 k, LeO (fugueref00_EqProgram.f k a0 a1 a2 a3) (fugueref00_EqProgram.f (k + 1) a0 a1 a2 a3) := by
 intro a0 a1 a2 a3 k
 unfold fugueref00_EqProgram.f
 repeat' first
   | (with_reducible exact fugueref00_EqFuncs.mono _ _ _)
   | (with_reducible exact LeO.refl _)
   | (with_reducible exact LeO.none _)
   | (with_reducible refine LeO.ite ?_ ?_)
   | (with_reducible refine LeO.bind ?_ (fun _ => ?_))
   | exact fugueref00_EqFuncs.mono _ _ _
   | exact LeO.none _
   | refine LeO.ite ?_ ?_
   | refine LeO.bind ?_ (fun _ => ?_)
set_option maxHeartbeats 8000000 in
set_option maxRecDepth 100000 in
theorem fugueref00_EqProgram.calls (k : Nat) (a0_0 : Int) (A0_1 : Option Addr) (c0_1 : Nat) (l0_1 : List (S46)) (a1_0 : Int) (A1_1 : Option Addr) (c1_1 : Nat) (l1_1 : List (S46)) (r : Bool) (hr_ : r = true) (w : World) (hr0_1 : Kd.C k46 w A0_1 l0_1.length l0_1) (hc0_1 : l0_1.length ≤ c0_1) (hr1_1 : Kd.C k46 w A1_1 l1_1.length l1_1) (hc1_1 : l1_1.length ≤ c1_1) (h : fugueref00_EqProgram.f k a0_0 l0_1 a1_0 l1_1 = some r) :
  Calls Tryd.prog 14 #[.agg #[.int .i64 a0_0, .slice A0_1 l0_1.length c0_1], .agg #[.int .i64 a1_0, .slice A1_1 l1_1.length c1_1]] w fun e w' => e = .returned (.bool r) ∧ Below w.heap.size w w' := by
 have hu24 := Tryd.underlying24
 have HR0_1 := Az.mk hr0_1
 have HC0_1 := Az.mk hc0_1
 clear hr0_1 hc0_1
 have HR1_1 := Az.mk hr1_1
 have HC1_1 := Az.mk hc1_1
 clear hr1_1 hc1_1
 have HB := Az.mk (Below.refl w.heap.size w)
 have H : (if a0_0 = a1_0 then ((fugueref00_EqFuncs.f k l0_1 l1_1).bind fun t124 => (some t124)) else (some false)) = some r := h
 clear h
 by_cases c3 : a0_0 = a1_0
 ·rw [if_pos c3] at H
  have c3b0 : (a0_0 == a1_0) = true := beq_iff_eq.mpr c3
  have c3b1 : (a0_0 != a1_0) = false := bne_eq_false_iff_eq.mpr c3
  clear c3
  replace H := Option.bind_eq_some_iff.mp H
  obtain ⟨t124, A40, H⟩ := H
  replace H : (some t124) = some r := H
  have A4 := Az.mk A40
  clear A40
  obtain rfl := Option.some.inj H
  go_enter Tryd.func14, Tryd.ntmps14
  go_wp2_with (first | ((with_reducible refine gate_dst (N := 2) rfl ?_); refine box_event ?hg (N := 2) ?hd (cs := #[.int .i64 a0_0, .slice A0_1 l0_1.length c0_1]) (t := 24) ?hr ?_; (case hd => rfl); (case hg => rfl); (case hr => first | (go_simp; done) | (go_simp; rfl)); intro gb122 hg w5 hbox hb; have n0_ := Az.mk (tZ (by repeat (first | (with_reducible first | exact HB.out | apply lZ | apply pZ | apply dZ) | exact HB.out)) hb); have n1_ := Az.mk (hbox); have n2_ := Az.mk ((by rw [hg]; exact (zZ (by repeat (first | (with_reducible first | exact HB.out | apply lZ | apply pZ | apply dZ) | exact HB.out))) : w.heap.size ≤ gb122)); have n3_ := Az.mk ((by rw [hg]; exact (zZ (by repeat (first | (with_reducible first | exact HB.out | apply lZ | apply pZ | apply dZ) | exact HB.out))) : w.heap.size ≤ gb122)); clear HB; have HB := n0_; have BK122 := n1_; have GW122 := n2_; have GE122 := n3_; clear n0_ n1_ n2_ n3_; clear hb hbox hg) | ((with_reducible refine gate_dst (N := 3) rfl ?_); refine box_event ?hg (N := 3) ?hd (cs := #[.int .i64 a1_0, .slice A1_1 l1_1.length c1_1]) (t := 24) ?hr ?_; (case hd => rfl); (case hg => rfl); (case hr => first | (go_simp; done) | (go_simp; rfl)); intro gb123 hg w6 hbox hb; have n0_ := Az.mk (kZ (g := gb122) (o := .cells #[.int .i64 a0_0, .slice A0_1 l0_1.length c0_1] 24 (0, 0)) (by (with_reducible repeat (first | refine blk_drewN ?_ _ | refine wZ ?_ | refine aZ ?_ _)); exact BK122.out) hb); have n1_ := Az.mk (tZ (by repeat (first | (with_reducible first | exact HB.out | apply lZ | apply pZ | apply dZ | refine sZ ?_ GE122.out) | exact HB.out)) hb); have n2_ := Az.mk (hbox); have n3_ := Az.mk ((by rw [hg]; exact (zZ (by repeat (first | (with_reducible first | exact HB.out | apply lZ | apply pZ | apply dZ | refine sZ ?_ GE122.out) | exact HB.out))) : w.heap.size ≤ gb123)); have n4_ := Az.mk ((by rw [hg]; exact (zZ (by repeat (first | (with_reducible first | exact HB.out | apply lZ | apply pZ | apply dZ | refine sZ ?_ GE122.out) | exact HB.out))) : w.heap.size ≤ gb123)); have n5_ := Az.mk ((by rw [hg]; exact Nat.ne_of_lt (blk_lt (g := gb122) (o := .cells #[.int .i64 a0_0, .slice A0_1 l0_1.length c0_1] 24 (0, 0)) (by (with_reducible repeat (first | refine blk_drewN ?_ _ | refine wZ ?_ | refine aZ ?_ _)); exact BK122.out)) : gb122 ≠ gb123)); have n6_ := Az.mk ((by rw [hg]; exact Nat.ne_of_gt (blk_lt (g := gb122) (o := .cells #[.int .i64 a0_0, .slice A0_1 l0_1.length c0_1] 24 (0, 0)) (by (with_reducible repeat (first | refine blk_drewN ?_ _ | refine wZ ?_ | refine aZ ?_ _)); exact BK122.out)) : gb123 ≠ gb122)); clear BK122; clear HB; have BK122 := n0_; have HB := n1_; have BK123 := n2_; have GW123 := n3_; have GE123 := n4_; have NB122_123 := n5_; have NB123_122 := n6_; clear n0_ n1_ n2_ n3_ n4_ n5_ n6_; clear hb hbox hg; have hnb7 := NB122_123.out; have hnc7 := NB123_122.out; have hcz8_0 : w6.cell? ⟨gb122, 0, none⟩ = some (.int .i64 a0_0) := (bZ BK122.out 0).trans rfl; have hcz8_1 : w6.cell? ⟨gb122, 1, none⟩ = some (.slice A0_1 l0_1.length c0_1) := (bZ BK122.out 1).trans rfl; have hfz8_0 := fZ BK122.out 0; have hfz8_1 := fZ BK122.out 1; have hcz9_0 : w6.cell? ⟨gb123, 0, none⟩ = some (.int .i64 a1_0) := (bZ BK123.out 0).trans rfl; have hcz9_1 : w6.cell? ⟨gb123, 1, none⟩ = some (.slice A1_1 l1_1.length c1_1) := (bZ BK123.out 1).trans rfl; have hfz9_0 := fZ BK123.out 0; have hfz9_1 := fZ BK123.out 1) | (go_at_call 32; (with_reducible refine (fugueref00_EqFuncs.calls k _ _ l0_1 _ _ l1_1 t124 hr_ _ ?side1 ?side2 ?side3 ?side4 A4.out).mono ?_); (case side1 => repeat (first | exact (Kd.C_below HR0_1.out HB.out) | (with_reducible refine Kd.C_alloc ?_ _) | (with_reducible refine Kd.C_drewN ?_ _) | (with_reducible refine Kd.C_drew ?_))); (case side2 => exact HC0_1.out); (case side3 => repeat (first | exact (Kd.C_below HR1_1.out HB.out) | (with_reducible refine Kd.C_alloc ?_ _) | (with_reducible refine Kd.C_drewN ?_ _) | (with_reducible refine Kd.C_drew ?_))); (case side4 => exact HC1_1.out); rintro e w10 ⟨rfl, hb⟩; replace BK122 := Az.mk (kZ (g := gb122) (o := .cells #[.int .i64 a0_0, .slice A0_1 l0_1.length c0_1] 24 (0, 0)) (by (with_reducible repeat (first | refine blk_drewN ?_ _ | refine wZ ?_ | refine aZ ?_ _)); exact BK122.out) hb); replace BK123 := Az.mk (kZ (g := gb123) (o := .cells #[.int .i64 a1_0, .slice A1_1 l1_1.length c1_1] 24 (0, 0)) (by (with_reducible repeat (first | refine blk_drewN ?_ _ | refine wZ ?_ | refine aZ ?_ _)); exact BK123.out) hb); replace HB := Az.mk (tZ (by repeat (first | (with_reducible first | exact HB.out | apply lZ | apply pZ | apply dZ | refine sZ ?_ GE122.out | refine sZ ?_ GE123.out) | exact HB.out)) hb); (try clear hb); (try clear hb2); (try clear hk); (try clear hi)))
  go_ret
  exact ⟨by first | rfl | (simp [errW_none, errW_some] <;> rfl) | (simp [*, errW_none, errW_some] <;> rfl), by repeat (first | (with_reducible first | exact HB.out | apply lZ | apply pZ | apply dZ | refine sZ ?_ GE122.out | refine sZ ?_ GE123.out) | exact HB.out)⟩
 ·rw [if_neg c3] at H
  rw [Option.some.injEq] at H; subst H; cases hr_
end Go.Proofs.YteonppgdmhakoaaDoor.PC
namespace Go.Proofs.YteonppgdmhakoaaDoor.PC
open Go.RowKit Go.Proofs.YteonppgdmhakoaaDoorW.PrintWords Go.Proofs.YteonppgdmhakoaaDoorW.PrintLast Go.Proofs.YteonppgdmhakoaaDoorW.PrintMore
attribute [local go_sem] max2_int min2_int max_two min_two max_three min_three max_four min_four
set_option linter.unusedVariables false
set_option linter.unusedSimpArgs false
def fuguelaw01_least.f  : Option (Int × (List (S46))) := some (0, (([(⟨0, 0, 0, (([(⟨15, 0, 0, 0, 0, ([] : List Int), ([] : List Int)⟩ : S50)] : List (S50)))⟩ : S46)] : List (S46))))
set_option maxHeartbeats 8000000 in
set_option maxRecDepth 100000 in
theorem fuguelaw01_least.calls  (r1 : Int) (r2 : List (S46)) (w : World) (h : fuguelaw01_least.f  = some (r1, r2)) :
  Calls Tryd.prog 29 #[] w fun e w' => ∃ v1_ : Value, e = .returned (.agg #[.int .i64 r1, v1_]) ∧ Kd.N k46 46 w' w.heap.size (fun k_ => (w.heap.size ≤ k_)) v1_ r2 ∧ Below w.heap.size w w' := by
 have hu24 := Tryd.underlying24
 have hu50 := Tryd.underlying50
 have hu46 := Tryd.underlying46
 have HB := Az.mk (Below.refl w.heap.size w)
 have H : (some (0, (([(⟨0, 0, 0, (([(⟨15, 0, 0, 0, 0, ([] : List Int), ([] : List Int)⟩ : S50)] : List (S50)))⟩ : S46)] : List (S46))))) = some (r1, r2) := h
 clear h
 obtain ⟨y126, hy126⟩ : ∃ y_ : List (S50), y_ = (([(⟨15, 0, 0, 0, 0, ([] : List Int), ([] : List Int)⟩ : S50)] : List (S50))) := ⟨_, rfl⟩
 replace H : (some (0, (([(⟨0, 0, 0, y126⟩ : S46)] : List (S46))))) = some (r1, r2) := by first | (rw [hy126]; with_reducible exact H) | (have H2_ := (Option.bind_some _ _).symm.trans H; rw [hy126]; with_reducible exact H2_) | (have H2_ := (Option.bind_some _ _).symm.trans H; with_reducible exact H2_) | with_reducible exact H | (rw [hy126]; exact H) | exact H
 have Ny126 := Az.mk hy126
 clear hy126
 obtain ⟨y129, hy129⟩ : ∃ y_ : List (S46), y_ = (([(⟨0, 0, 0, y126⟩ : S46)] : List (S46))) := ⟨_, rfl⟩
 replace H : (some (0, y129)) = some (r1, r2) := by first | (rw [hy129]; with_reducible exact H) | (have H2_ := (Option.bind_some _ _).symm.trans H; rw [hy129]; with_reducible exact H2_) | (have H2_ := (Option.bind_some _ _).symm.trans H; with_reducible exact H2_) | with_reducible exact H | (rw [hy129]; exact H) | exact H
 have Ny129 := Az.mk hy129
 clear hy129
 simp only [Option.some.injEq, Prod.mk.injEq] at H
 obtain ⟨rfl, rfl⟩ := H
 go_enter Tryd.func29, Tryd.ntmps29
 go_wp2_with (first | ((with_reducible refine gate_dst (N := 0) rfl ?_); refine box_event ?hg (N := 0) ?hd (cs := #[.int .i64 0, .slice none 0 0]) (t := 24) ?hr ?_; (case hd => rfl); (case hg => rfl); (case hr => first | (go_simp; done) | (go_simp; rfl)); intro gb125 hg w1 hbox hb; have n0_ := Az.mk (tZ (by repeat (first | (with_reducible first | exact HB.out | apply lZ | apply pZ | apply dZ) | exact HB.out)) hb); have n1_ := Az.mk (hbox); have n2_ := Az.mk ((by rw [hg]; exact (zZ (by repeat (first | (with_reducible first | exact HB.out | apply lZ | apply pZ | apply dZ) | exact HB.out))) : w.heap.size ≤ gb125)); have n3_ := Az.mk ((by rw [hg]; exact (zZ (by repeat (first | (with_reducible first | exact HB.out | apply lZ | apply pZ | apply dZ) | exact HB.out))) : w.heap.size ≤ gb125)); clear HB; have HB := n0_; have BK125 := n1_; have GW125 := n2_; have GE125 := n3_; clear n0_ n1_ n2_ n3_; clear hb hbox hg) | ((with_reducible refine gate_dst (N := 2) rfl ?_); refine Kd.N_lit k50 _ 50 ?hg (N' := 2) ?hd (xs := ([(⟨15, 0, 0, 0, 0, ([] : List Int), ([] : List Int)⟩ : S50)] : List (S50))) (inner := [.int .i64 15, .int .i64 0, .int .i64 0, .int .i64 0, .int .i64 0, .slice none 0 0, .slice none 0 0]) (ok := (fun k_ => (w.heap.size ≤ k_) ∧ k_ ≠ gb125)) (okp := (fun k_ => (w.heap.size ≤ k_) ∧ k_ ≠ gb125)) ?hr ?hp (fun _ hk => hk) ((show ∀ k_, w1.heap.size ≤ k_ → (fun k_ => (w.heap.size ≤ k_) ∧ k_ ≠ gb125) k_ from fun k_ hk => ⟨(Nat.le_trans (zZ (by repeat (first | (with_reducible first | exact HB.out | apply lZ | apply pZ | apply dZ | refine sZ ?_ GE125.out) | exact HB.out))) hk), Kd.freshB (g := gb125) (o := .cells #[.int .i64 0, .slice none 0 0] 24 (0, 0)) (by (with_reducible repeat (first | refine blk_drewN ?_ _ | refine wZ ?_ | refine aZ ?_ _)); exact BK125.out) k_ hk⟩) _ (Nat.le_refl _)) (Below.refl _ _) (Nat.le_refl _) (by simp) ?_; (case hd => rfl); (case hg => rfl); (case hr => first | (go_simp; done) | (go_simp; rfl)); (case hp => exact (Reps.c7 (show Kd.FK k50 _ _ (⟨15, 0, 0, 0, 0, ([] : List Int), ([] : List Int)⟩ : S50) [.int .i64 15, .int .i64 0, .int .i64 0, .int .i64 0, .int .i64 0, .slice none 0 0, .slice none 0 0] from (k50_mkF _ _ (⟨15, 0, 0, 0, 0, ([] : List Int), ([] : List Int)⟩ : S50) (Nat.le_refl _) (Kd.F_nil _ _ _) (Nat.le_refl _) (Kd.F_nil _ _ _))) (Reps.none _ _))); intro v127 w2 ho3 hb hg_ hnew_; clear hg_ hnew_; (first | rw [← Ny126.out] at ho3 | (simp only [Int.reduceToNat] at ho3; rw [← Ny126.out] at ho3)); have HO128 := Az.mk (Kd.N_lower ho3 (zZ (by repeat (first | (with_reducible first | exact HB.out | apply lZ | apply pZ | apply dZ | refine sZ ?_ GE125.out) | exact HB.out)))); replace BK125 := Az.mk (kZ (g := gb125) (o := .cells #[.int .i64 0, .slice none 0 0] 24 (0, 0)) (by (with_reducible repeat (first | refine blk_drewN ?_ _ | refine wZ ?_ | refine aZ ?_ _)); exact BK125.out) hb); replace HB := Az.mk (tZ (by repeat (first | (with_reducible first | exact HB.out | apply lZ | apply pZ | apply dZ | refine sZ ?_ GE125.out) | exact HB.out)) hb); clear hb ho3; obtain ⟨Ao4, co4, eo4⟩ := Kd.N_slice HO128.out; subst eo4) | ((with_reducible refine gate_dst (N := 4) rfl ?_); refine Kd.N_lit k46 _ 46 ?hg (N' := 4) ?hd (xs := ([(⟨0, 0, 0, y126⟩ : S46)] : List (S46))) (inner := [.int .i64 0, .int .i64 0, .int .i64 0, .slice Ao4 y126.length co4]) (ok := (fun k_ => (w.heap.size ≤ k_) ∧ k_ ≠ gb125)) (okp := (fun k_ => (w.heap.size ≤ k_) ∧ k_ ≠ gb125)) ?hr ?hp (fun _ hk => hk) ((show ∀ k_, w2.heap.size ≤ k_ → (fun k_ => (w.heap.size ≤ k_) ∧ k_ ≠ gb125) k_ from fun k_ hk => ⟨(Nat.le_trans (zZ (by repeat (first | (with_reducible first | exact HB.out | apply lZ | apply pZ | apply dZ | refine sZ ?_ GE125.out) | exact HB.out))) hk), Kd.freshB (g := gb125) (o := .cells #[.int .i64 0, .slice none 0 0] 24 (0, 0)) (by (with_reducible repeat (first | refine blk_drewN ?_ _ | refine wZ ?_ | refine aZ ?_ _)); exact BK125.out) k_ hk⟩) _ (Nat.le_refl _)) (Below.refl _ _) (Nat.le_refl _) (by simp) ?_; (case hd => rfl); (case hg => rfl); (case hr => first | (go_simp; done) | (go_simp; rfl)); (case hp => exact (Reps.c4 (show Kd.FK k46 _ _ (⟨0, 0, 0, y126⟩ : S46) [.int .i64 0, .int .i64 0, .int .i64 0, .slice Ao4 y126.length co4] from (k46_mkF _ _ (⟨0, 0, 0, y126⟩ : S46) (Kd.N_reads' (Kd.N_mono (ok' := (fun k_ => (w.heap.size ≤ k_) ∧ k_ ≠ gb125)) (HO128.out) (fun k_ hk => ⟨hk.1, hk.2⟩))).2.1 (Kd.N_F (Kd.N_mono (ok' := (fun k_ => (w.heap.size ≤ k_) ∧ k_ ≠ gb125)) (HO128.out) (fun k_ hk => ⟨hk.1, hk.2⟩))))) (Reps.none _ _))); intro v130 w5 ho6 hb hg_ hnew_; clear hg_ hnew_; (first | rw [← Ny129.out] at ho6 | (simp only [Int.reduceToNat] at ho6; rw [← Ny129.out] at ho6)); have HO131 := Az.mk (Kd.N_lower ho6 (zZ (by repeat (first | (with_reducible first | exact HB.out | apply lZ | apply pZ | apply dZ | refine sZ ?_ GE125.out) | exact HB.out)))); replace BK125 := Az.mk (kZ (g := gb125) (o := .cells #[.int .i64 0, .slice none 0 0] 24 (0, 0)) (by (with_reducible repeat (first | refine blk_drewN ?_ _ | refine wZ ?_ | refine aZ ?_ _)); exact BK125.out) hb); replace HB := Az.mk (tZ (by repeat (first | (with_reducible first | exact HB.out | apply lZ | apply pZ | apply dZ | refine sZ ?_ GE125.out) | exact HB.out)) hb); clear HO128; clear hb ho6; obtain ⟨Ao7, co7, eo7⟩ := Kd.N_slice HO131.out; subst eo7; have hcz8_0 : w5.cell? ⟨gb125, 0, none⟩ = some (.int .i64 0) := (bZ BK125.out 0).trans rfl; have hcz8_1 : w5.cell? ⟨gb125, 1, none⟩ = some (.slice none 0 0) := (bZ BK125.out 1).trans rfl; have hfz8_0 := fZ BK125.out 0; have hfz8_1 := fZ BK125.out 1))
 refine bodyPost_ret (results_cell_row rfl _ _ gb125 24 #[.int .i64 0, .slice Ao7 y129.length co7] (0, 0) _ rfl (by (with_reducible repeat (first | refine blk_drewN ?_ _ | refine wZ ?_ | refine aZ ?_ _)); refine blk_put (cs := #[.int .i64 0, .slice none 0 0]) ?_ 1 _ rfl; (with_reducible repeat (first | refine blk_drewN ?_ _ | refine wZ ?_ | refine aZ ?_ _)); refine blk_put (cs := #[.int .i64 0, .slice none 0 0]) ?_ 0 _ rfl; (with_reducible repeat (first | refine blk_drewN ?_ _ | refine wZ ?_ | refine aZ ?_ _)); exact BK125.out) Tryd.underlying24 rfl (by kernel_rfl)) rfl ?_
 exact ⟨_, by first | rfl | (simp [errW_none, errW_some] <;> rfl) | (simp [*, errW_none, errW_some] <;> rfl), by (with_reducible repeat (first | apply Kd.N_alloc | apply Kd.N_drewN | apply Kd.N_drew)); exact Kd.N_mono (Kd.N_far (p := ⟨gb125, 1, none⟩) (Kd.N_far (p := ⟨gb125, 0, none⟩) (Kd.N_mono HO131.out (fun k_ hk => (⟨hk, hk.2⟩ : _ ∧ k_ ≠ gb125))) (fun _ hk => hk.2) (.int .i64 0)) (fun _ hk => hk.2) (.slice Ao7 y129.length co7)) (fun _ hk => hk.1.1), by repeat (first | (with_reducible first | exact HB.out | apply lZ | apply pZ | apply dZ | refine sZ ?_ GE125.out) | exact HB.out)⟩
end Go.Proofs.YteonppgdmhakoaaDoor.PC
