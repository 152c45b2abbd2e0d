/- Texts of this proof. -/
import Derived.SizedLaws
import Derived.ChangeSlices
/-! ## WSized -/
-- PRINTED WORDS (module Derived/Print/Sized.lean): go-gate-2's, for the rows of laws over slices: an AI agent of Go's test side, Tue Nov 17 2026; no person has read it. Lean checks it.
namespace Go.Proofs.YtlopmffdebhpfaaW.PrintWords
open Go.ChangeShapes Go.WideShapes
end Go.Proofs.YtlopmffdebhpfaaW.PrintWords
