-- Words of the kit's print, turned to this claim: those that no text of the claim names are left out (prune.py).
import Derived.Test.YtadloeklhjoohaaWTab
/-! ### 56. Four, five, six operations that may come up next, in any order -/
namespace Go.Proofs.YtadloeklhjoohaaW.PrintLast
section
variable {P : Program} {ops : Array Oper} {Q : Exit → Act → World → Prop} {md : Region.Mode} {S : World → Prop} {ds : List Nat} {T : Bool × List (List Nat × List Nat)}
end
end Go.Proofs.YtadloeklhjoohaaW.PrintLast
