-- Words of the kit's print, turned to this claim: those that no text of the claim names are left out (prune.py).
import Derived.Test.YtpnngdljfnhnfaaWInv
import Derived.Test.YtpnngdljfnhnfaaWFootNe
namespace Go.Proofs.YtpnngdljfnhnfaaW.PrintWords
open Go.RowKit
end Go.Proofs.YtpnngdljfnhnfaaW.PrintWords
namespace Go.Proofs.YtpnngdljfnhnfaaW.PrintLast
section
variable {ops : Array Oper} {a : Act} {o og : Oper} {g : Nat} {t : Tmp} {u : Bool}
end
end Go.Proofs.YtpnngdljfnhnfaaW.PrintLast
