/-
  No cell of these rows narrows 'for every input' (looked for: loops, veiled, ifaces, maps, wideKeys, modest, calm, conditions, laid).
  DERIVED. THE GIVEN ROWS OF THIS SEAT. 3 by the template 'for every input the law returns true; each argument reads behind the call as it read before'; 0 by the template 'total and deterministic' (their statements: YtadloeklhjoohaaTotals.lean).
  GIVEN WITH THE SEED: the statements are not yours to turn. If you find one false, say at which input.
  Laid BY PROGRAM, IN A SANDBOX (cutbox-rows.mjs): the forced cells as the released guide's own fill.sh prints them over the translation ae4432bf50e12ec0… (all of the seat's roots in one cut). By AI agents, Wed Nov 11 2026. No macro, syntax, notation, axiom, sorry.
-/
import Derived.Test.YtadloeklhjoohaaChecked
import GoSem.Claim
import GoSem.ClaimJoined
import GoSem.ClaimMapViews
import Derived.JoinedTies
import Derived.KernelRfl
namespace Go.Proofs.Ytadloeklhjoohaa
/- THE CELL 'sum', in the pinned program and in every row, IS THE sha256 OF THE DUMP (.gsa) THAT YtadloeklhjoohaaProg.lean LOADS. Nothing in Lean hashes anything: it is a label: what it is worth is what the hold of that sum in a sandbox is worth. -/
noncomputable def Try.pinned : Pinned := { name := "ytadloeklhjoohaa", sum := "ae4432bf50e12ec0529c36f4ee052c43af629adf71e6633de4c2b2219185f946", checked := Try.checked }
namespace Rows
def none {H : Type} : Left H := { results := [], args := [] }

/-- 'laws.FnCurrents': WHATEVER THE INPUT: true; the input reads as it did. -/
def fnCurrentsSpec : ChangeSpec := { name := "fnCurrents", fn := fun _ => fun
  | [d] => { results := [.lit (.bool true)], args := [d] }
  | _ => none }
def fnCurrentsRow : OpenClaim := { program := "ytadloeklhjoohaa", sum := "ae4432bf50e12ec0529c36f4ee052c43af629adf71e6633de4c2b2219185f946", func := "loop.example/g03208/laws.FnCurrents", spec := "fnCurrents", unfollowed := true, recurses := true, apart := false }
def FnCurrentsSaid : Prop := fnCurrentsRow.holds Try.pinned (OpenSpec.ofChange fnCurrentsSpec)

/-- ITS FALSE NEIGHBOUR: 'it returns false'. Refute it at one input. -/
def fnCurrentsWrong : ChangeSpec := { name := "fnCurrents", fn := fun _ => fun
  | [d] => { results := [.lit (.bool false)], args := [d] }
  | _ => none }
def FnCurrentsWrongFalsely : Prop := fnCurrentsRow.holds Try.pinned (OpenSpec.ofChange fnCurrentsWrong)

/-- 'laws.FnShelves': WHATEVER THE INPUT: true; the input reads as it did. -/
def fnShelvesSpec : ChangeSpec := { name := "fnShelves", fn := fun _ => fun
  | [d] => { results := [.lit (.bool true)], args := [d] }
  | _ => none }
def fnShelvesRow : OpenClaim := { program := "ytadloeklhjoohaa", sum := "ae4432bf50e12ec0529c36f4ee052c43af629adf71e6633de4c2b2219185f946", func := "loop.example/g03208/laws.FnShelves", spec := "fnShelves", unfollowed := true, recurses := true, apart := false }
def FnShelvesSaid : Prop := fnShelvesRow.holds Try.pinned (OpenSpec.ofChange fnShelvesSpec)

/-- ITS FALSE NEIGHBOUR: 'it returns false'. Refute it at one input. -/
def fnShelvesWrong : ChangeSpec := { name := "fnShelves", fn := fun _ => fun
  | [d] => { results := [.lit (.bool false)], args := [d] }
  | _ => none }
def FnShelvesWrongFalsely : Prop := fnShelvesRow.holds Try.pinned (OpenSpec.ofChange fnShelvesWrong)

/-- 'laws.FnBars': WHATEVER THE INPUT: true; the input reads as it did. -/
def fnBarsSpec : ChangeSpec := { name := "fnBars", fn := fun _ => fun
  | [d] => { results := [.lit (.bool true)], args := [d] }
  | _ => none }
def fnBarsRow : OpenClaim := { program := "ytadloeklhjoohaa", sum := "ae4432bf50e12ec0529c36f4ee052c43af629adf71e6633de4c2b2219185f946", func := "loop.example/g03208/laws.FnBars", spec := "fnBars", unfollowed := true, recurses := true, apart := false }
def FnBarsSaid : Prop := fnBarsRow.holds Try.pinned (OpenSpec.ofChange fnBarsSpec)

/-- ITS FALSE NEIGHBOUR: 'it returns false'. Refute it at one input. -/
def fnBarsWrong : ChangeSpec := { name := "fnBars", fn := fun _ => fun
  | [d] => { results := [.lit (.bool false)], args := [d] }
  | _ => none }
def FnBarsWrongFalsely : Prop := fnBarsRow.holds Try.pinned (OpenSpec.ofChange fnBarsWrong)

/- THE SECOND FORM. 'bulk': how many values and letters a reading holds, each counted each time it is reached (what is shared counts as often as it is met; a slice's spare places count too). A statement '..UptoSaid' is the law's where the arguments, and the package variables that the reading takes, are together of bulk at most 1048576: NARROWER than '..Said'. Prove '..Said' where nothing that the law and all that it calls make is longer than what came in: it says more and counts as full. Else prove '..UptoSaid'. A law counts once. -/
mutual
def uptoBulk {H : Type} : DataW H → Nat
  | .lit (.string bytes) => bytes.length + 1
  | .lit _ => 1
  | .nil => 1
  | .ptr d => uptoBulk d + 1
  | .slice elems spare => uptoBulkAll elems + uptoBulkAll spare + 1
  | .agg parts => uptoBulkAll parts + 1
  | .iface _ d => uptoBulk d + 1
  | .map entries => uptoBulkEntries entries + 1
  | .held _ => 1
def uptoBulkAll {H : Type} : List (DataW H) → Nat
  | [] => 0
  | d :: r => uptoBulk d + uptoBulkAll r
def uptoBulkEntries {H : Type} : List (Lit × DataW H) → Nat
  | [] => 0
  | x :: r => uptoBulkEntry x + uptoBulkEntries r
def uptoBulkEntry {H : Type} : Lit × DataW H → Nat
  | (.string bytes, d) => bytes.length + uptoBulk d + 1
  | (_, d) => uptoBulk d + 1
 end
def uptoSmall : (H : Type) → List (DataW H) → Bool := fun _ ds => decide (uptoBulkAll ds ≤ 1048576)
def OpenSpec.upto (s : _root_.Go.ChangeSpec) : _root_.Go.OpenSpec := { _root_.Go.OpenSpec.ofChange s with cond := some uptoSmall }

/-- 'laws.FnCurrents', WHERE WHAT IT READS IS OF BULK AT MOST 1048576: true; the input reads as it did. -/
def fnCurrentsUptoRow : OpenClaim := { program := "ytadloeklhjoohaa", sum := "ae4432bf50e12ec0529c36f4ee052c43af629adf71e6633de4c2b2219185f946", func := "loop.example/g03208/laws.FnCurrents", spec := "fnCurrents", unfollowed := true, recurses := true, apart := false, narrowed := true }
def FnCurrentsUptoSaid : Prop := fnCurrentsUptoRow.holds Try.pinned (OpenSpec.upto fnCurrentsSpec)

/-- 'laws.FnShelves', WHERE WHAT IT READS IS OF BULK AT MOST 1048576: true; the input reads as it did. -/
def fnShelvesUptoRow : OpenClaim := { program := "ytadloeklhjoohaa", sum := "ae4432bf50e12ec0529c36f4ee052c43af629adf71e6633de4c2b2219185f946", func := "loop.example/g03208/laws.FnShelves", spec := "fnShelves", unfollowed := true, recurses := true, apart := false, narrowed := true }
def FnShelvesUptoSaid : Prop := fnShelvesUptoRow.holds Try.pinned (OpenSpec.upto fnShelvesSpec)

/-- 'laws.FnBars', WHERE WHAT IT READS IS OF BULK AT MOST 1048576: true; the input reads as it did. -/
def fnBarsUptoRow : OpenClaim := { program := "ytadloeklhjoohaa", sum := "ae4432bf50e12ec0529c36f4ee052c43af629adf71e6633de4c2b2219185f946", func := "loop.example/g03208/laws.FnBars", spec := "fnBars", unfollowed := true, recurses := true, apart := false, narrowed := true }
def FnBarsUptoSaid : Prop := fnBarsUptoRow.holds Try.pinned (OpenSpec.upto fnBarsSpec)

end Rows
end Go.Proofs.Ytadloeklhjoohaa
