/- The law WeighOrders answers true for graphs and a list of at most 1048576 each. -/
import Derived.Test.YtmjdiiockddalaaHOrdW
import Derived.Test.YtmjdiiockddalaaHArgsB
namespace Go.Proofs.Ytmjdiiockddalaa.PW
open Go.RowKit Go.Maps Go.Proofs.YtmjdiiockddalaaW.PrintWords Go.Proofs.YtmjdiiockddalaaW.PrintLast Go.Proofs.YtmjdiiockddalaaW.PrintMore
theorem orders_walk {x y : S31} {ps : List Int} (hx : Bd31 1048576 x) (hp : Bd29 1048576 ps) (hy : Bd31 1048576 y) (W : World) {A1 c1 A2 c2 A3 c3 A4 c4 A5 c5} (l1 : x.f1.length ≤ c1) (g1 : k41.C W A1 x.f1.length x.f1) (l2 : x.f2.length ≤ c2) (g2 : (Kd.int .i64).C W A2 x.f2.length x.f2) (l3 : ps.length ≤ c3) (g3 : (Kd.int .i64).C W A3 ps.length ps) (l4 : y.f1.length ≤ c4) (g4 : k41.C W A4 y.f1.length y.f1) (l5 : y.f2.length ≤ c5) (g5 : (Kd.int .i64).C W A5 y.f2.length y.f2) :
    Calls Try.prog 9 #[.agg #[.int .i64 x.f0, .slice A1 x.f1.length c1, .slice A2 x.f2.length c2], .slice A3 ps.length c3, .agg #[.int .i64 y.f0, .slice A4 y.f1.length c4, .slice A5 y.f2.length c5]] W fun e w' => e = .returned (.bool true) ∧ Below W.heap.size W w' :=
  orders_good x.f0 A1 c1 x.f1 A2 c2 x.f2 A3 c3 ps y.f0 A4 c4 y.f1 A5 c5 y.f2 W g1 l1 g2 l2 g3 l3 g4 l4 g5 l5 hx.2.1.1 hx.2.2.1 hp.1 hy.2.1.1 hy.2.2.1
end Go.Proofs.Ytmjdiiockddalaa.PW
