/-
  No cell of these rows narrows 'for every input' (looked for: loops, veiled, ifaces, maps, wideKeys, modest, calm, conditions, laid).
  DERIVED. THE GIVEN ROWS OF THIS SEAT. 7 by the template 'for every input the law returns true; each argument reads behind the call as it read before'; 0 by the template 'total and deterministic' (their statements: YtpnngdljfnhnfaaTotals.lean).
  GIVEN WITH THE SEED: the statements are not yours to turn. If you find one false, say at which input.
  Laid BY PROGRAM, IN A SANDBOX (cutbox-rows.mjs): the forced cells as the released guide's own fill.sh prints them over the translation b2a239d8fb9c342d… (all of the seat's roots in one cut). By AI agents, Wed Nov 11 2026. No macro, syntax, notation, axiom, sorry.
-/
import Derived.Test.YtpnngdljfnhnfaaChecked
import GoSem.Claim
import GoSem.ClaimJoined
import GoSem.ClaimMapViews
import Derived.JoinedTies
import Derived.KernelRfl
namespace Go.Proofs.Ytpnngdljfnhnfaa
/- THE CELL 'sum', in the pinned program and in every row, IS THE sha256 OF THE DUMP (.gsa) THAT YtpnngdljfnhnfaaProg.lean LOADS. Nothing in Lean hashes anything: it is a label: what it is worth is what the hold of that sum in a sandbox is worth. -/
noncomputable def Try.pinned : Pinned := { name := "ytpnngdljfnhnfaa", sum := "b2a239d8fb9c342da3466b6ce9ef521119406933914678055656432bab0fd66b", checked := Try.checked }
namespace Rows
def none {H : Type} : Left H := { results := [], args := [] }

/-- 'laws.FnNests': WHATEVER THE INPUT: true; the input reads as it did. -/
def fnNestsSpec : ChangeSpec := { name := "fnNests", fn := fun _ => fun
  | [d] => { results := [.lit (.bool true)], args := [d] }
  | _ => none }
def fnNestsRow : OpenClaim := { program := "ytpnngdljfnhnfaa", sum := "b2a239d8fb9c342da3466b6ce9ef521119406933914678055656432bab0fd66b", func := "loop.example/g03208/laws.FnNests", spec := "fnNests", unfollowed := true, recurses := true, apart := false }
def FnNestsSaid : Prop := fnNestsRow.holds Try.pinned (OpenSpec.ofChange fnNestsSpec)

/-- ITS FALSE NEIGHBOUR: 'it returns false'. Refute it at one input. -/
def fnNestsWrong : ChangeSpec := { name := "fnNests", fn := fun _ => fun
  | [d] => { results := [.lit (.bool false)], args := [d] }
  | _ => none }
def FnNestsWrongFalsely : Prop := fnNestsRow.holds Try.pinned (OpenSpec.ofChange fnNestsWrong)

/-- 'laws.FnExactColorsOn': WHATEVER THE INPUT: true; the input reads as it did. -/
def fnExactColorsOnSpec : ChangeSpec := { name := "fnExactColorsOn", fn := fun _ => fun
  | [d1, d2, d3] => { results := [.lit (.bool true)], args := [d1, d2, d3] }
  | _ => none }
def fnExactColorsOnRow : OpenClaim := { program := "ytpnngdljfnhnfaa", sum := "b2a239d8fb9c342da3466b6ce9ef521119406933914678055656432bab0fd66b", func := "loop.example/g03208/laws.FnExactColorsOn", spec := "fnExactColorsOn", recurses := true, apart := false }
def FnExactColorsOnSaid : Prop := fnExactColorsOnRow.holds Try.pinned (OpenSpec.ofChange fnExactColorsOnSpec)

/-- ITS FALSE NEIGHBOUR: 'it returns false'. Refute it at one input. -/
def fnExactColorsOnWrong : ChangeSpec := { name := "fnExactColorsOn", fn := fun _ => fun
  | [d1, d2, d3] => { results := [.lit (.bool false)], args := [d1, d2, d3] }
  | _ => none }
def FnExactColorsOnWrongFalsely : Prop := fnExactColorsOnRow.holds Try.pinned (OpenSpec.ofChange fnExactColorsOnWrong)

/-- 'laws.FnExactLayings': WHATEVER THE INPUT: true; the input reads as it did. -/
def fnExactLayingsSpec : ChangeSpec := { name := "fnExactLayings", fn := fun _ => fun
  | [d1, d2, d3, d4, d5] => { results := [.lit (.bool true)], args := [d1, d2, d3, d4, d5] }
  | _ => none }
def fnExactLayingsRow : OpenClaim := { program := "ytpnngdljfnhnfaa", sum := "b2a239d8fb9c342da3466b6ce9ef521119406933914678055656432bab0fd66b", func := "loop.example/g03208/laws.FnExactLayings", spec := "fnExactLayings", recurses := true, apart := false }
def FnExactLayingsSaid : Prop := fnExactLayingsRow.holds Try.pinned (OpenSpec.ofChange fnExactLayingsSpec)

/-- ITS FALSE NEIGHBOUR: 'it returns false'. Refute it at one input. -/
def fnExactLayingsWrong : ChangeSpec := { name := "fnExactLayings", fn := fun _ => fun
  | [d1, d2, d3, d4, d5] => { results := [.lit (.bool false)], args := [d1, d2, d3, d4, d5] }
  | _ => none }
def FnExactLayingsWrongFalsely : Prop := fnExactLayingsRow.holds Try.pinned (OpenSpec.ofChange fnExactLayingsWrong)

/-- 'laws.FnExactFitsHow': WHATEVER THE INPUT: true; the input reads as it did. -/
def fnExactFitsHowSpec : ChangeSpec := { name := "fnExactFitsHow", fn := fun _ => fun
  | [d1, d2, d3, d4] => { results := [.lit (.bool true)], args := [d1, d2, d3, d4] }
  | _ => none }
def fnExactFitsHowRow : OpenClaim := { program := "ytpnngdljfnhnfaa", sum := "b2a239d8fb9c342da3466b6ce9ef521119406933914678055656432bab0fd66b", func := "loop.example/g03208/laws.FnExactFitsHow", spec := "fnExactFitsHow", recurses := true, apart := false }
def FnExactFitsHowSaid : Prop := fnExactFitsHowRow.holds Try.pinned (OpenSpec.ofChange fnExactFitsHowSpec)

/-- ITS FALSE NEIGHBOUR: 'it returns false'. Refute it at one input. -/
def fnExactFitsHowWrong : ChangeSpec := { name := "fnExactFitsHow", fn := fun _ => fun
  | [d1, d2, d3, d4] => { results := [.lit (.bool false)], args := [d1, d2, d3, d4] }
  | _ => none }
def FnExactFitsHowWrongFalsely : Prop := fnExactFitsHowRow.holds Try.pinned (OpenSpec.ofChange fnExactFitsHowWrong)

/-- 'laws.FnExactNestGreedy': WHATEVER THE INPUT: true; the input reads as it did. -/
def fnExactNestGreedySpec : ChangeSpec := { name := "fnExactNestGreedy", fn := fun _ => fun
  | [d1, d2, d3, d4] => { results := [.lit (.bool true)], args := [d1, d2, d3, d4] }
  | _ => none }
def fnExactNestGreedyRow : OpenClaim := { program := "ytpnngdljfnhnfaa", sum := "b2a239d8fb9c342da3466b6ce9ef521119406933914678055656432bab0fd66b", func := "loop.example/g03208/laws.FnExactNestGreedy", spec := "fnExactNestGreedy", unfollowed := true, recurses := true, apart := false }
def FnExactNestGreedySaid : Prop := fnExactNestGreedyRow.holds Try.pinned (OpenSpec.ofChange fnExactNestGreedySpec)

/-- ITS FALSE NEIGHBOUR: 'it returns false'. Refute it at one input. -/
def fnExactNestGreedyWrong : ChangeSpec := { name := "fnExactNestGreedy", fn := fun _ => fun
  | [d1, d2, d3, d4] => { results := [.lit (.bool false)], args := [d1, d2, d3, d4] }
  | _ => none }
def FnExactNestGreedyWrongFalsely : Prop := fnExactNestGreedyRow.holds Try.pinned (OpenSpec.ofChange fnExactNestGreedyWrong)

/-- 'laws.FnExactCountNests': WHATEVER THE INPUT: true; the input reads as it did. -/
def fnExactCountNestsSpec : ChangeSpec := { name := "fnExactCountNests", fn := fun _ => fun
  | [d1, d2, d3, d4] => { results := [.lit (.bool true)], args := [d1, d2, d3, d4] }
  | _ => none }
def fnExactCountNestsRow : OpenClaim := { program := "ytpnngdljfnhnfaa", sum := "b2a239d8fb9c342da3466b6ce9ef521119406933914678055656432bab0fd66b", func := "loop.example/g03208/laws.FnExactCountNests", spec := "fnExactCountNests", unfollowed := true, recurses := true, apart := false }
def FnExactCountNestsSaid : Prop := fnExactCountNestsRow.holds Try.pinned (OpenSpec.ofChange fnExactCountNestsSpec)

/-- ITS FALSE NEIGHBOUR: 'it returns false'. Refute it at one input. -/
def fnExactCountNestsWrong : ChangeSpec := { name := "fnExactCountNests", fn := fun _ => fun
  | [d1, d2, d3, d4] => { results := [.lit (.bool false)], args := [d1, d2, d3, d4] }
  | _ => none }
def FnExactCountNestsWrongFalsely : Prop := fnExactCountNestsRow.holds Try.pinned (OpenSpec.ofChange fnExactCountNestsWrong)

/-- 'laws.FnExactNestAll': WHATEVER THE INPUT: true; the input reads as it did. -/
def fnExactNestAllSpec : ChangeSpec := { name := "fnExactNestAll", fn := fun _ => fun
  | [d1, d2, d3, d4] => { results := [.lit (.bool true)], args := [d1, d2, d3, d4] }
  | _ => none }
def fnExactNestAllRow : OpenClaim := { program := "ytpnngdljfnhnfaa", sum := "b2a239d8fb9c342da3466b6ce9ef521119406933914678055656432bab0fd66b", func := "loop.example/g03208/laws.FnExactNestAll", spec := "fnExactNestAll", unfollowed := true, recurses := true, apart := false }
def FnExactNestAllSaid : Prop := fnExactNestAllRow.holds Try.pinned (OpenSpec.ofChange fnExactNestAllSpec)

/-- ITS FALSE NEIGHBOUR: 'it returns false'. Refute it at one input. -/
def fnExactNestAllWrong : ChangeSpec := { name := "fnExactNestAll", fn := fun _ => fun
  | [d1, d2, d3, d4] => { results := [.lit (.bool false)], args := [d1, d2, d3, d4] }
  | _ => none }
def FnExactNestAllWrongFalsely : Prop := fnExactNestAllRow.holds Try.pinned (OpenSpec.ofChange fnExactNestAllWrong)

/- THE SECOND FORM. 'bulk': how many values and letters a reading holds, each counted each time it is reached (what is shared counts as often as it is met; a slice's spare places count too). A statement '..UptoSaid' is the law's where the arguments, and the package variables that the reading takes, are together of bulk at most 1048576: NARROWER than '..Said'. Prove '..Said' where nothing that the law and all that it calls make is longer than what came in: it says more and counts as full. Else prove '..UptoSaid'. A law counts once. -/
mutual
def uptoBulk {H : Type} : DataW H → Nat
  | .lit (.string bytes) => bytes.length + 1
  | .lit _ => 1
  | .nil => 1
  | .ptr d => uptoBulk d + 1
  | .slice elems spare => uptoBulkAll elems + uptoBulkAll spare + 1
  | .agg parts => uptoBulkAll parts + 1
  | .iface _ d => uptoBulk d + 1
  | .map entries => uptoBulkEntries entries + 1
  | .held _ => 1
def uptoBulkAll {H : Type} : List (DataW H) → Nat
  | [] => 0
  | d :: r => uptoBulk d + uptoBulkAll r
def uptoBulkEntries {H : Type} : List (Lit × DataW H) → Nat
  | [] => 0
  | x :: r => uptoBulkEntry x + uptoBulkEntries r
def uptoBulkEntry {H : Type} : Lit × DataW H → Nat
  | (.string bytes, d) => bytes.length + uptoBulk d + 1
  | (_, d) => uptoBulk d + 1
 end
def uptoSmall : (H : Type) → List (DataW H) → Bool := fun _ ds => decide (uptoBulkAll ds ≤ 1048576)
def OpenSpec.upto (s : _root_.Go.ChangeSpec) : _root_.Go.OpenSpec := { _root_.Go.OpenSpec.ofChange s with cond := some uptoSmall }

/-- 'laws.FnNests', WHERE WHAT IT READS IS OF BULK AT MOST 1048576: true; the input reads as it did. -/
def fnNestsUptoRow : OpenClaim := { program := "ytpnngdljfnhnfaa", sum := "b2a239d8fb9c342da3466b6ce9ef521119406933914678055656432bab0fd66b", func := "loop.example/g03208/laws.FnNests", spec := "fnNests", unfollowed := true, recurses := true, apart := false, narrowed := true }
def FnNestsUptoSaid : Prop := fnNestsUptoRow.holds Try.pinned (OpenSpec.upto fnNestsSpec)

/-- 'laws.FnExactColorsOn', WHERE WHAT IT READS IS OF BULK AT MOST 1048576: true; the input reads as it did. -/
def fnExactColorsOnUptoRow : OpenClaim := { program := "ytpnngdljfnhnfaa", sum := "b2a239d8fb9c342da3466b6ce9ef521119406933914678055656432bab0fd66b", func := "loop.example/g03208/laws.FnExactColorsOn", spec := "fnExactColorsOn", recurses := true, apart := false, narrowed := true }
def FnExactColorsOnUptoSaid : Prop := fnExactColorsOnUptoRow.holds Try.pinned (OpenSpec.upto fnExactColorsOnSpec)

/-- 'laws.FnExactLayings', WHERE WHAT IT READS IS OF BULK AT MOST 1048576: true; the input reads as it did. -/
def fnExactLayingsUptoRow : OpenClaim := { program := "ytpnngdljfnhnfaa", sum := "b2a239d8fb9c342da3466b6ce9ef521119406933914678055656432bab0fd66b", func := "loop.example/g03208/laws.FnExactLayings", spec := "fnExactLayings", recurses := true, apart := false, narrowed := true }
def FnExactLayingsUptoSaid : Prop := fnExactLayingsUptoRow.holds Try.pinned (OpenSpec.upto fnExactLayingsSpec)

/-- 'laws.FnExactFitsHow', WHERE WHAT IT READS IS OF BULK AT MOST 1048576: true; the input reads as it did. -/
def fnExactFitsHowUptoRow : OpenClaim := { program := "ytpnngdljfnhnfaa", sum := "b2a239d8fb9c342da3466b6ce9ef521119406933914678055656432bab0fd66b", func := "loop.example/g03208/laws.FnExactFitsHow", spec := "fnExactFitsHow", recurses := true, apart := false, narrowed := true }
def FnExactFitsHowUptoSaid : Prop := fnExactFitsHowUptoRow.holds Try.pinned (OpenSpec.upto fnExactFitsHowSpec)

/-- 'laws.FnExactNestGreedy', WHERE WHAT IT READS IS OF BULK AT MOST 1048576: true; the input reads as it did. -/
def fnExactNestGreedyUptoRow : OpenClaim := { program := "ytpnngdljfnhnfaa", sum := "b2a239d8fb9c342da3466b6ce9ef521119406933914678055656432bab0fd66b", func := "loop.example/g03208/laws.FnExactNestGreedy", spec := "fnExactNestGreedy", unfollowed := true, recurses := true, apart := false, narrowed := true }
def FnExactNestGreedyUptoSaid : Prop := fnExactNestGreedyUptoRow.holds Try.pinned (OpenSpec.upto fnExactNestGreedySpec)

/-- 'laws.FnExactCountNests', WHERE WHAT IT READS IS OF BULK AT MOST 1048576: true; the input reads as it did. -/
def fnExactCountNestsUptoRow : OpenClaim := { program := "ytpnngdljfnhnfaa", sum := "b2a239d8fb9c342da3466b6ce9ef521119406933914678055656432bab0fd66b", func := "loop.example/g03208/laws.FnExactCountNests", spec := "fnExactCountNests", unfollowed := true, recurses := true, apart := false, narrowed := true }
def FnExactCountNestsUptoSaid : Prop := fnExactCountNestsUptoRow.holds Try.pinned (OpenSpec.upto fnExactCountNestsSpec)

/-- 'laws.FnExactNestAll', WHERE WHAT IT READS IS OF BULK AT MOST 1048576: true; the input reads as it did. -/
def fnExactNestAllUptoRow : OpenClaim := { program := "ytpnngdljfnhnfaa", sum := "b2a239d8fb9c342da3466b6ce9ef521119406933914678055656432bab0fd66b", func := "loop.example/g03208/laws.FnExactNestAll", spec := "fnExactNestAll", unfollowed := true, recurses := true, apart := false, narrowed := true }
def FnExactNestAllUptoSaid : Prop := fnExactNestAllUptoRow.holds Try.pinned (OpenSpec.upto fnExactNestAllSpec)

end Rows
end Go.Proofs.Ytpnngdljfnhnfaa
