/- Texts of this proof. -/
import Derived.Test.YtlopmffdebhpfaaK9WWords
import Derived.Laws.StructEq
/-! ## WEqStruct -/
/-! ### 53. '==' of structs as_ one Bool -/
namespace Go.Proofs.YtlopmffdebhpfaaW.PrintWords
open Go.RowKit
section
variable {P : Program} {d : Nat} {xs ys : Array Value} {f : Field} {fs : List Field} {a b : Value} {r s : Bool} {w : World}
end
end Go.Proofs.YtlopmffdebhpfaaW.PrintWords
