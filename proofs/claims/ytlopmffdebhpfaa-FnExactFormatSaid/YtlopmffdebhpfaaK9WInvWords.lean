/- Texts of this proof. -/
import Derived.Test.YtlopmffdebhpfaaK9WInv
import Derived.Test.YtlopmffdebhpfaaK9WFootNe
/-! ## WInvWords -/
namespace Go.Proofs.YtlopmffdebhpfaaW.PrintWords
open Go.RowKit
end Go.Proofs.YtlopmffdebhpfaaW.PrintWords
namespace Go.Proofs.YtlopmffdebhpfaaW.PrintLast
section
variable {ops : Array Oper} {a : Act} {o og : Oper} {g : Nat} {t : Tmp} {u : Bool}
end
end Go.Proofs.YtlopmffdebhpfaaW.PrintLast
