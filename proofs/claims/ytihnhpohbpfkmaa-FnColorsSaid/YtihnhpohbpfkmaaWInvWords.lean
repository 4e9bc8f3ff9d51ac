-- Words of the kit's print, turned to this claim: those that no text of the claim names are left out (prune.py).
import Derived.Test.YtihnhpohbpfkmaaWInv
import Derived.Test.YtihnhpohbpfkmaaWFootNe
namespace Go.Proofs.YtihnhpohbpfkmaaW.PrintWords
open Go.RowKit
end Go.Proofs.YtihnhpohbpfkmaaW.PrintWords
namespace Go.Proofs.YtihnhpohbpfkmaaW.PrintLast
section
variable {ops : Array Oper} {a : Act} {o og : Oper} {g : Nat} {t : Tmp} {u : Bool}
end
end Go.Proofs.YtihnhpohbpfkmaaW.PrintLast
