/- Names: each constant of package api has its number: the printed function of fuguetop.Names is true. No conditions. -/
import Derived.Test.YtgemcomcjojjbaaPNamesx1
namespace Go.Proofs.Ytgemcomcjojjbaa.Pure
open Go.RowKit Go.Proofs.Ytgemcomcjojjbaa.PNames Go.Proofs.YtgemcomcjojjbaaW.PrintWords Go.Proofs.YtgemcomcjojjbaaW.PrintLast

/-- YOURS: fuguetop_Names.f  = some true
What it reaches (each with k first where it has rounds; `.mono`: more rounds tell the same; `.l0`, ..: its loops, with `.mono_l`): fuguetop_Names.f -/
theorem Names : fuguetop_Names.Pure := rfl

end Go.Proofs.Ytgemcomcjojjbaa.Pure
