/- SumsOrder is true: the walks of all cases joined. No conditions. -/
import Derived.Test.YtgemcomcjojjbaaHOrdF
import Derived.Test.YtgemcomcjojjbaaHOrdG
import Derived.Test.YtgemcomcjojjbaaHOrdT
import Derived.Test.YtgemcomcjojjbaaHArgsS
namespace Go.Proofs.Ytgemcomcjojjbaa.PS
open Go.RowKit Go.Proofs.YtgemcomcjojjbaaW.PrintWords
theorem order_any {x : S24} {A2 : Option Addr} {c2 : Nat} {A3 : Option Addr} {c3 : Nat} {A4 : Option Addr} {c4 : Nat} (W : World) (l2 : x.f2.length ≤ c2) (g2 : (Kd.int .i64).C W A2 x.f2.length x.f2) (l3 : x.f3.length ≤ c3) (g3 : (Kd.int .i64).C W A3 x.f3.length x.f3) (l4 : x.f4.length ≤ c4) (g4 : (Kd.int .i64).C W A4 x.f4.length x.f4) :
    Calls Try.prog 3 #[.agg #[.int .i64 x.f0, .int .i64 x.f1, .slice A2 x.f2.length c2, .slice A3 x.f3.length c3, .slice A4 x.f4.length c4]] W fun e w' => e = .returned (.bool true) ∧ Below W.heap.size W w' := by
  obtain ⟨p, r, la, lb, lc⟩ := x
  obtain ⟨k1, h1, r1, e1, ra⟩ := shaped_ok p r la (Kd.C_max g2)
  obtain ⟨k2, h2, r2, e2, rb⟩ := shaped_ok p r lb (Kd.C_max g3)
  obtain ⟨k3, h3, r3, e3, rc⟩ := shaped_ok p r lc (Kd.C_max g4)
  have hs := shape_mod p r
  cases hab : aboveS ⟨h1, r1⟩ ⟨h2, r2⟩ with
  | false => exact order_walkF p r la lb lc A2 A3 A4 c2 c3 c4 (p % 9) (r % 5) ⟨h1, r1⟩ ⟨h2, r2⟩ ⟨h3, r3⟩ k1 k2 k3 W g2 l2 g3 l3 g4 l4 e1 e2 e3 hs ra rb rc hab
  | true =>
    cases hbc : aboveS ⟨h2, r2⟩ ⟨h3, r3⟩ with
    | false => exact order_walkG p r la lb lc A2 A3 A4 c2 c3 c4 (p % 9) (r % 5) ⟨h1, r1⟩ ⟨h2, r2⟩ ⟨h3, r3⟩ k1 k2 k3 W g2 l2 g3 l3 g4 l4 e1 e2 e3 hs ra rb rc hab hbc
    | true => exact order_walkT p r la lb lc A2 A3 A4 c2 c3 c4 (p % 9) (r % 5) ⟨h1, r1⟩ ⟨h2, r2⟩ ⟨h3, r3⟩ k1 k2 k3 W g2 l2 g3 l3 g4 l4 e1 e2 e3 hs ra rb rc hab hbc
end Go.Proofs.Ytgemcomcjojjbaa.PS
