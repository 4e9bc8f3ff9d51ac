-- Words of the kit's print, turned to this claim: those that no text of the claim names are left out (prune.py).
import Derived.Test.YtadloeklhjoohaaWInv
import Derived.Test.YtadloeklhjoohaaWFootNe
namespace Go.Proofs.YtadloeklhjoohaaW.PrintWords
open Go.RowKit
end Go.Proofs.YtadloeklhjoohaaW.PrintWords
namespace Go.Proofs.YtadloeklhjoohaaW.PrintLast
section
variable {ops : Array Oper} {a : Act} {o og : Oper} {g : Nat} {t : Tmp} {u : Bool}
end
end Go.Proofs.YtadloeklhjoohaaW.PrintLast
