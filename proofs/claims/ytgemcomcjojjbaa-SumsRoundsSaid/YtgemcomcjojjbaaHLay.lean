/- lay of package sums: a summary's bytes behind others. No conditions. -/
import Derived.Test.YtgemcomcjojjbaaHCheck
namespace Go.Proofs.Ytgemcomcjojjbaa.PS
open Go.RowKit Go.Proofs.YtgemcomcjojjbaaW.PrintWords Go.Proofs.YtgemcomcjojjbaaW.PrintLast Go.Proofs.YtgemcomcjojjbaaW.PrintMore
set_option linter.unusedVariables false
set_option linter.unusedSimpArgs false

abbrev kB : Kd Int := Kd.int .u8
def byteI (x : Int) : Int := x % 256
def layP (p : Int × List Int) : List Int := byteI p.1 :: p.2.map byteI
def layS (S : S31) : List Int := (S.f0.zip S.f1).flatMap layP
def layU (x : List Int) (y : List (List Int)) (q : Nat) : List Int := ((x.zip y).take q).flatMap layP
theorem layU_next (x : List Int) (y : List (List Int)) (q : Nat) (h : q < x.length) (h' : q < y.length) : layU x y (q + 1) = layU x y q ++ layP (x[q], y[q]) := by
  unfold layU
  rw [List.take_succ_eq_append_getElem (by rw [List.length_zip]; omega), List.flatMap_append]
  simp
theorem map_next (r : List Int) (k : Nat) (h : k < r.length) : (r.take (k + 1)).map byteI = (r.take k).map byteI ++ [byteI (rd r (k : Int))] := by
  rw [List.take_succ_eq_append_getElem h, List.map_append, rd_get r k h]
  rfl
set_option maxHeartbeats 8000000 in
set_option maxRecDepth 100000 in
theorem lay_any (bs : List Int) (v : Value) (S : S31) (A0 : Option Addr) (c0 : Nat) (A1 : Option Addr) (c1 : Nat) (Wz W : World) (hWz : Below Wz.heap.size Wz W)
    (h0 : kI.C Wz A0 S.f0.length S.f0) (l0 : S.f0.length ≤ c0) (h1 : kL.C Wz A1 S.f1.length S.f1) (l1 : S.f1.length ≤ c1)
    (hO : kB.R 5 W Wz.heap.size (fun _ => True) v bs) (hl : bs.length ≤ 100000000000000) (hp : S.f0.length ≤ 8) (hq : S.f1.length = S.f0.length) (hr : ∀ (q : Nat) (h : q < S.f1.length), S.f1[q].length ≤ 4) :
    Calls Try.prog 33 #[v, .agg #[.slice A0 S.f0.length c0, .slice A1 S.f1.length c1]] W fun e w' => ∃ v', e = .returned v' ∧ kB.R 5 w' Wz.heap.size (fun _ => True) v' (bs ++ layS S) ∧ Below Wz.heap.size Wz w' := by
  obtain ⟨x, y⟩ := S
  replace h0 : kI.C Wz A0 x.length x := h0
  replace h1 : kL.C Wz A1 y.length y := h1
  replace l0 : x.length ≤ c0 := l0
  replace l1 : y.length ≤ c1 := l1
  replace hp : x.length ≤ 8 := hp
  replace hq : y.length = x.length := hq
  replace hr : ∀ (q : Nat) (h : q < y.length), y[q].length ≤ 4 := hr
  show Calls Try.prog 33 #[v, .agg #[.slice A0 x.length c0, .slice A1 y.length c1]] W fun e w' => ∃ v', e = .returned v' ∧ kB.R 5 w' Wz.heap.size (fun _ => True) v' (bs ++ layS ⟨x, y⟩) ∧ Below Wz.heap.size Wz w'
  have HR0 := Aside0.mk h0
  have HR1 := Aside0.mk h1
  have HO := Aside0.mk hO
  have HWz := Aside0.mk hWz
  have HL := Aside0.mk hl
  have HP := Aside0.mk hp
  have HQ := Aside0.mk hq
  have HRw := Aside0.mk hr
  have hm0 : x.length ≤ 9223372036854775807 := by omega
  have hm1 : y.length ≤ 9223372036854775807 := by omega
  obtain ⟨Av, cv, rfl⟩ := Kd.R_slice hO
  clear h0 h1 l0 l1 hO hWz hl hp hq hr
  go_enter Try.func33, Try.ntmps33
  go_wp2_with ((with_reducible refine gate_dst (N := 3) rfl ?_); refine box_event ?hg (N := 3) ?hd (cs := #[.slice A0 x.length c0, .slice A1 y.length c1]) (t := 31) ?hr ?_; (case hd => rfl); (case hg => rfl); (case hr => first | (go_simp; done) | (go_simp; rfl)); intro g3 hg w1 hbox hb; have G3 : Aside0 (Wz.heap.size ≤ g3) := ⟨by have := HWz.out.size; omega⟩; have BK3 := Aside0.mk hbox; have HO_ := Aside0.mk (Kd.R_below HO.out hb); have HB := Aside0.mk (HWz.out.trans (hb.mono HWz.out.size)); clear HO HWz hg hbox hb; have HO := HO_; clear HO_; have hz0 : w1.cell? ⟨g3, 0, none⟩ = some (.slice A0 x.length c0) := (blk_cell BK3.out 0).trans rfl)
  clear hz0
  go_loopw [0, 12] (fun v0 v12 w' => ∃ q : Nat, q ≤ x.length ∧ v12 = .int .i64 (q : Int) ∧ Aside0 (kB.R 5 w' Wz.heap.size (fun _ => True) v0 (bs ++ layU x y q)) ∧ Aside0 ((bs ++ layU x y q).length ≤ bs.length + 5 * q) ∧ Aside0 (w'.heap[g3]? = some (.cells #[.slice A0 x.length c0, .slice A1 y.length c1] 31 (0, 0))) ∧ Aside0 (Below Wz.heap.size Wz w')) (fun _ i _ => x.length - (intOf i).toNat)
  case atStart => exact ⟨0, Nat.zero_le _, rfl, ⟨by simpa [layU] using HO.out⟩, ⟨by simp [layU]⟩, BK3, HB⟩
  case round =>
    obtain ⟨q, hq, rfl, HO', HLn, K3, HB'⟩ := hrel
    clear HO BK3 HB
    obtain ⟨D, hD⟩ : ∃ D, D = bs ++ layU x y q := ⟨_, rfl⟩
    have HDe := Aside0.mk hD
    rw [← hD] at HO' HLn
    clear hD
    by_cases hlt : q < x.length
    · have g0 : (0 : Int) ≤ q := by omega
      have g1 : (q : Int) < x.length := by omega
      have hwp : wrap64 ((q : Int) + 1) = (q : Int) + 1 := wrap_in (by omega) (by omega)
      obtain ⟨ad, e0, hx⟩ := Kd.at_int (Kd.C_below HR0.out HB'.out) (q : Int) g0 g1
      cases e0
      simp only [Int.toNat_natCast] at hx
      have hqy : q < y.length := by rw [HQ.out]; exact hlt
      have HNx := Aside0.mk (layU_next x y q hlt hqy)
      have Hr4 := Aside0.mk (HRw.out q hqy)
      rw [rd_get x q hlt] at hx
      obtain ⟨xq, hxq⟩ : ∃ xq, xq = x[q] := ⟨_, rfl⟩
      rw [← hxq] at hx HNx
      obtain ⟨r, hr⟩ : ∃ r, r = y[q] := ⟨_, rfl⟩
      rw [← hr] at HNx Hr4
      have Hr := Aside0.mk hr
      clear hxq hr
      have HLn1 : Aside0 ((D.length + 1) * 1 ≤ 140737488355328) := ⟨by have := HLn.out; have := HL.out; have := HP.out; omega⟩
      obtain ⟨bd, A2, c2, e1, hcy, hl2, hC2⟩ := at_ints HR1.out q hqy rfl
      cases e1
      rw [← Hr.out] at hcy hC2
      have HCy := Aside0.mk hcy
      have HC2 := Aside0.mk hC2
      have hmr : r.length ≤ 9223372036854775807 := Kd.C_max hC2
      have g2 : (q : Int) < y.length := by omega
      clear hcy hC2 hl2 Hr
      go_wp2_with ((with_reducible refine gate_builtin (b := .append) (xs := #[.tmp 17, .tmp 20]) rfl ?_); at_builtin; refine Kd.R_append (Kd.int .u8) (w0 := wr) Wz.heap.size rfl (.tmp 17) (.tmp 20) 42 5 (.int .u8 0) 1 rfl Try.underlying42 info5 rfl (by decide) (by omega) u0 D (xq % 256) [.int .u8 ((xq % 256))] (fun _ => True) (fun _ => False) rfl rfl ?aP (fun _ hk => hk.elim) ?aF ?aO ?aB ?aS ?aL ?_; (case aP => exact rfl); (case aB => exact Below.refl _ _); (case aF => exact (fun _ _ => trivial)); (case aO => exact HO'.out); (case aS => exact HB'.out.size); (case aL => exact HLn1.out); intro v1 wv ho hb hg hat; have K3w := Aside0.mk (blk_grown K3.out hg (Kd.R_ne HO'.out K3.out (by decide))); have HBv := Aside0.mk (HB'.out.trans hb); have HOv := Aside0.mk ho; have hz1 : wv.cell? ⟨g3, 1, none⟩ = some (.slice (some bd) y.length c1) := (blk_cell K3w.out 1).trans rfl; have hcy := pw_cell_below HBv.out HCy.out; clear ho hb hg hat K3 HO' HB')
      clear hz1 hcy hx
      go_loopw [0, 28] (fun v0 v28 w' => ∃ k : Nat, k ≤ r.length ∧ v28 = .int .i64 (k : Int) ∧ Aside0 (kB.R 5 w' Wz.heap.size (fun _ => True) v0 (D ++ [xq % 256] ++ (r.take k).map byteI)) ∧ Aside0 (w'.heap[g3]? = some (.cells #[.slice (some ad) x.length c0, .slice (some bd) y.length c1] 31 (0, 0))) ∧ Aside0 (Below Wz.heap.size Wz w')) (fun _ i _ => r.length - (intOf i).toNat)
      case atStart => exact ⟨0, Nat.zero_le _, rfl, ⟨by simpa using HOv.out⟩, K3w, HBv⟩
      case round =>
        obtain ⟨k, hk, rfl, HO2, K32, HB2⟩ := hrel
        clear HOv K3w HBv
        obtain ⟨E, hE⟩ : ∃ E, E = D ++ [xq % 256] ++ (r.take k).map byteI := ⟨_, rfl⟩
        have HE := Aside0.mk hE
        rw [← hE] at HO2
        clear hE
        by_cases hkt : k < r.length
        · have k0 : (0 : Int) ≤ k := by omega
          have k1 : (k : Int) < r.length := by omega
          have hwk : wrap64 ((k : Int) + 1) = (k : Int) + 1 := wrap_in (by omega) (by omega)
          obtain ⟨rd_, e0, hrx⟩ := Kd.at_int (Kd.C_below HC2.out HB2.out) (k : Int) k0 k1
          cases e0
          simp only [Int.toNat_natCast] at hrx
          have HM := Aside0.mk (map_next r k hkt)
          obtain ⟨rk, hrk⟩ : ∃ rk, rk = rd r (k : Int) := ⟨_, rfl⟩
          rw [← hrk] at hrx HM
          have HLn2 : Aside0 ((E.length + 1) * 1 ≤ 140737488355328) := ⟨by rw [HE.out]; simp only [List.length_append, List.length_map, List.length_take, List.length_singleton]; have := HLn.out; have := HL.out; have := HP.out; have := Hr4.out; omega⟩
          clear hrk
          go_wp2_with ((with_reducible refine gate_builtin (b := .append) (xs := #[.tmp 32, .tmp 35]) rfl ?_); at_builtin; refine Kd.R_append (Kd.int .u8) (w0 := wr) Wz.heap.size rfl (.tmp 32) (.tmp 35) 42 5 (.int .u8 0) 1 rfl Try.underlying42 info5 rfl (by decide) (by omega) u0 E (rk % 256) [.int .u8 ((rk % 256))] (fun _ => True) (fun _ => False) rfl rfl ?aP (fun _ hk => hk.elim) ?aF ?aO ?aB ?aS ?aL ?_; (case aP => exact rfl); (case aB => exact Below.refl _ _); (case aF => exact (fun _ _ => trivial)); (case aO => exact HO2.out); (case aS => exact HB2.out.size); (case aL => exact HLn2.out); intro v1 wv ho hb hg hat; have K3w := Aside0.mk (blk_grown K32.out hg (Kd.R_ne HO2.out K32.out (by decide))); have HBv := Aside0.mk (HB2.out.trans hb); have HOv := Aside0.mk ho; clear ho hb hg hat K32 HO2 HB2)
          have HO3 : Aside0 (kB.R 5 wv Wz.heap.size (fun _ => True) v1 (D ++ [xq % 256] ++ (r.take (k + 1)).map byteI)) := ⟨by rw [HM.out, ← List.append_assoc, ← HE.out]; exact HOv.out⟩
          clear HOv
          go_roundw
          case rel => exact ⟨k + 1, by omega, by go_num, HO3, K3w, HBv⟩
          case measure => simp [intOf]; omega
        · obtain rfl : r.length = k := by omega
          have HE2 : Aside0 (E = bs ++ layU x y (q + 1)) := ⟨by rw [HE.out, HNx.out, ← List.append_assoc, ← HDe.out, List.take_of_length_le (Nat.le_refl _), List.append_assoc]; rfl⟩
          have HLn3 : Aside0 ((bs ++ layU x y (q + 1)).length ≤ bs.length + 5 * (q + 1)) := ⟨by rw [← HE2.out, HE.out]; simp only [List.length_append, List.length_map, List.length_take, List.length_singleton]; have := HLn.out; have := Hr4.out; omega⟩
          rw [HE2.out] at HO2
          clear hkt hk
          go_wp2_with fail
          go_roundw
          case rel => exact ⟨q + 1, by omega, by go_num, HO2, HLn3, K32, HB2⟩
          case measure => simp [intOf]; omega
    · obtain rfl : x.length = q := by omega
      have HD2 : Aside0 (D = bs ++ layS ⟨x, y⟩) := ⟨by rw [HDe.out]; unfold layU layS; rw [List.take_of_length_le (by rw [List.length_zip]; exact Nat.min_le_left _ _)]⟩
      go_wp2_with fail
      go_ret
      exact ⟨_, rfl, by rw [← HD2.out]; exact HO'.out, HB'.out⟩
end Go.Proofs.Ytgemcomcjojjbaa.PS
