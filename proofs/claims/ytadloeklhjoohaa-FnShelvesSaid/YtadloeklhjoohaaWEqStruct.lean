-- Words of the kit's print, turned to this claim: those that no text of the claim names are left out (prune.py).
import Derived.Test.YtadloeklhjoohaaWWords
import Derived.Laws.StructEq
/-! ### 53. '==' of structs as_ one Bool -/
namespace Go.Proofs.YtadloeklhjoohaaW.PrintWords
open Go.RowKit
section
variable {P : Program} {d : Nat} {xs ys : Array Value} {f : Field} {fs : List Field} {a b : Value} {r s : Bool} {w : World}
end
end Go.Proofs.YtadloeklhjoohaaW.PrintWords
