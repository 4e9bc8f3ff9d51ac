-- Words of the kit's print, turned to this claim: those that no text of the claim names are left out (prune.py).
import Derived.Test.YtpnngdljfnhnfaaWWords
/-! ### 58. A guarded operation whose guard is known to want it: the same goal without the guard -/
namespace Go.Proofs.YtpnngdljfnhnfaaW.PrintWords
open Go.RowKit
section
variable {P : Program} {ops : Array Oper} {rest : List Oper} {o : Oper} {a : Act} {Q : Exit → Act → World → Prop} {W : World}
end
end Go.Proofs.YtpnngdljfnhnfaaW.PrintWords
