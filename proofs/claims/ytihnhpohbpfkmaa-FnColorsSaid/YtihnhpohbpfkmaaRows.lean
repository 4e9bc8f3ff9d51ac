/-
  No cell of these rows narrows 'for every input' (looked for: loops, veiled, ifaces, maps, wideKeys, modest, calm, conditions, laid).
  DERIVED. THE GIVEN ROWS OF THIS SEAT. 4 by the template 'for every input the law returns true; each argument reads behind the call as it read before'; 0 by the template 'total and deterministic' (their statements: YtihnhpohbpfkmaaTotals.lean).
  GIVEN WITH THE SEED: the statements are not yours to turn. If you find one false, say at which input.
  Laid BY PROGRAM, IN A SANDBOX (cutbox-rows.mjs): the forced cells as the released guide's own fill.sh prints them over the translation 96dcb7ee52a279d8… (all of the seat's roots in one cut). By AI agents, Wed Nov 11 2026. No macro, syntax, notation, axiom, sorry.
-/
import Derived.Test.YtihnhpohbpfkmaaChecked
import GoSem.Claim
import GoSem.ClaimJoined
import GoSem.ClaimMapViews
import Derived.JoinedTies
import Derived.KernelRfl
namespace Go.Proofs.Ytihnhpohbpfkmaa
/- THE CELL 'sum', in the pinned program and in every row, IS THE sha256 OF THE DUMP (.gsa) THAT YtihnhpohbpfkmaaProg.lean LOADS. Nothing in Lean hashes anything: it is a label: what it is worth is what the hold of that sum in a sandbox is worth. -/
noncomputable def Try.pinned : Pinned := { name := "ytihnhpohbpfkmaa", sum := "96dcb7ee52a279d83ab5b2ad9ebde40037fe1eb5e432902be7a77488d7dd4c53", checked := Try.checked }
namespace Rows
def none {H : Type} : Left H := { results := [], args := [] }

/-- 'laws.FnColors': WHATEVER THE INPUT: true; the input reads as it did. -/
def fnColorsSpec : ChangeSpec := { name := "fnColors", fn := fun _ => fun
  | [d] => { results := [.lit (.bool true)], args := [d] }
  | _ => none }
def fnColorsRow : OpenClaim := { program := "ytihnhpohbpfkmaa", sum := "96dcb7ee52a279d83ab5b2ad9ebde40037fe1eb5e432902be7a77488d7dd4c53", func := "loop.example/g03208/laws.FnColors", spec := "fnColors", unfollowed := true, recurses := true, plainKeys := false, apart := false }
def FnColorsSaid : Prop := fnColorsRow.holds Try.pinned (OpenSpec.ofChange fnColorsSpec)

/-- ITS FALSE NEIGHBOUR: 'it returns false'. Refute it at one input. -/
def fnColorsWrong : ChangeSpec := { name := "fnColors", fn := fun _ => fun
  | [d] => { results := [.lit (.bool false)], args := [d] }
  | _ => none }
def FnColorsWrongFalsely : Prop := fnColorsRow.holds Try.pinned (OpenSpec.ofChange fnColorsWrong)

/-- 'laws.FnExactRainbowSides': WHATEVER THE INPUT: true; the input reads as it did. -/
def fnExactRainbowSidesSpec : ChangeSpec := { name := "fnExactRainbowSides", fn := fun _ => fun
  | [d1, d2] => { results := [.lit (.bool true)], args := [d1, d2] }
  | _ => none }
def fnExactRainbowSidesRow : OpenClaim := { program := "ytihnhpohbpfkmaa", sum := "96dcb7ee52a279d83ab5b2ad9ebde40037fe1eb5e432902be7a77488d7dd4c53", func := "loop.example/g03208/laws.FnExactRainbowSides", spec := "fnExactRainbowSides", unfollowed := true, recurses := true, plainKeys := false, apart := false }
def FnExactRainbowSidesSaid : Prop := fnExactRainbowSidesRow.holds Try.pinned (OpenSpec.ofChange fnExactRainbowSidesSpec)

/-- ITS FALSE NEIGHBOUR: 'it returns false'. Refute it at one input. -/
def fnExactRainbowSidesWrong : ChangeSpec := { name := "fnExactRainbowSides", fn := fun _ => fun
  | [d1, d2] => { results := [.lit (.bool false)], args := [d1, d2] }
  | _ => none }
def FnExactRainbowSidesWrongFalsely : Prop := fnExactRainbowSidesRow.holds Try.pinned (OpenSpec.ofChange fnExactRainbowSidesWrong)

/-- 'laws.FnExactEqualCut': WHATEVER THE INPUT: true; the input reads as it did. -/
def fnExactEqualCutSpec : ChangeSpec := { name := "fnExactEqualCut", fn := fun _ => fun
  | [d1, d2, d3] => { results := [.lit (.bool true)], args := [d1, d2, d3] }
  | _ => none }
def fnExactEqualCutRow : OpenClaim := { program := "ytihnhpohbpfkmaa", sum := "96dcb7ee52a279d83ab5b2ad9ebde40037fe1eb5e432902be7a77488d7dd4c53", func := "loop.example/g03208/laws.FnExactEqualCut", spec := "fnExactEqualCut", unfollowed := true, recurses := true, plainKeys := false, apart := false }
def FnExactEqualCutSaid : Prop := fnExactEqualCutRow.holds Try.pinned (OpenSpec.ofChange fnExactEqualCutSpec)

/-- ITS FALSE NEIGHBOUR: 'it returns false'. Refute it at one input. -/
def fnExactEqualCutWrong : ChangeSpec := { name := "fnExactEqualCut", fn := fun _ => fun
  | [d1, d2, d3] => { results := [.lit (.bool false)], args := [d1, d2, d3] }
  | _ => none }
def FnExactEqualCutWrongFalsely : Prop := fnExactEqualCutRow.holds Try.pinned (OpenSpec.ofChange fnExactEqualCutWrong)

/-- 'laws.FnExactCountRainbows': WHATEVER THE INPUT: true; the input reads as it did. -/
def fnExactCountRainbowsSpec : ChangeSpec := { name := "fnExactCountRainbows", fn := fun _ => fun
  | [d1, d2, d3] => { results := [.lit (.bool true)], args := [d1, d2, d3] }
  | _ => none }
def fnExactCountRainbowsRow : OpenClaim := { program := "ytihnhpohbpfkmaa", sum := "96dcb7ee52a279d83ab5b2ad9ebde40037fe1eb5e432902be7a77488d7dd4c53", func := "loop.example/g03208/laws.FnExactCountRainbows", spec := "fnExactCountRainbows", unfollowed := true, recurses := true, plainKeys := false, apart := false }
def FnExactCountRainbowsSaid : Prop := fnExactCountRainbowsRow.holds Try.pinned (OpenSpec.ofChange fnExactCountRainbowsSpec)

/-- ITS FALSE NEIGHBOUR: 'it returns false'. Refute it at one input. -/
def fnExactCountRainbowsWrong : ChangeSpec := { name := "fnExactCountRainbows", fn := fun _ => fun
  | [d1, d2, d3] => { results := [.lit (.bool false)], args := [d1, d2, d3] }
  | _ => none }
def FnExactCountRainbowsWrongFalsely : Prop := fnExactCountRainbowsRow.holds Try.pinned (OpenSpec.ofChange fnExactCountRainbowsWrong)

/- THE SECOND FORM. 'bulk': how many values and letters a reading holds, each counted each time it is reached (what is shared counts as often as it is met; a slice's spare places count too). A statement '..UptoSaid' is the law's where the arguments, and the package variables that the reading takes, are together of bulk at most 1048576: NARROWER than '..Said'. Prove '..Said' where nothing that the law and all that it calls make is longer than what came in: it says more and counts as full. Else prove '..UptoSaid'. A law counts once. -/
mutual
def uptoBulk {H : Type} : DataW H → Nat
  | .lit (.string bytes) => bytes.length + 1
  | .lit _ => 1
  | .nil => 1
  | .ptr d => uptoBulk d + 1
  | .slice elems spare => uptoBulkAll elems + uptoBulkAll spare + 1
  | .agg parts => uptoBulkAll parts + 1
  | .iface _ d => uptoBulk d + 1
  | .map entries => uptoBulkEntries entries + 1
  | .held _ => 1
def uptoBulkAll {H : Type} : List (DataW H) → Nat
  | [] => 0
  | d :: r => uptoBulk d + uptoBulkAll r
def uptoBulkEntries {H : Type} : List (Lit × DataW H) → Nat
  | [] => 0
  | x :: r => uptoBulkEntry x + uptoBulkEntries r
def uptoBulkEntry {H : Type} : Lit × DataW H → Nat
  | (.string bytes, d) => bytes.length + uptoBulk d + 1
  | (_, d) => uptoBulk d + 1
 end
def uptoSmall : (H : Type) → List (DataW H) → Bool := fun _ ds => decide (uptoBulkAll ds ≤ 1048576)
def OpenSpec.upto (s : _root_.Go.ChangeSpec) : _root_.Go.OpenSpec := { _root_.Go.OpenSpec.ofChange s with cond := some uptoSmall }

/-- 'laws.FnColors', WHERE WHAT IT READS IS OF BULK AT MOST 1048576: true; the input reads as it did. -/
def fnColorsUptoRow : OpenClaim := { program := "ytihnhpohbpfkmaa", sum := "96dcb7ee52a279d83ab5b2ad9ebde40037fe1eb5e432902be7a77488d7dd4c53", func := "loop.example/g03208/laws.FnColors", spec := "fnColors", unfollowed := true, recurses := true, plainKeys := false, apart := false, narrowed := true }
def FnColorsUptoSaid : Prop := fnColorsUptoRow.holds Try.pinned (OpenSpec.upto fnColorsSpec)

/-- 'laws.FnExactRainbowSides', WHERE WHAT IT READS IS OF BULK AT MOST 1048576: true; the input reads as it did. -/
def fnExactRainbowSidesUptoRow : OpenClaim := { program := "ytihnhpohbpfkmaa", sum := "96dcb7ee52a279d83ab5b2ad9ebde40037fe1eb5e432902be7a77488d7dd4c53", func := "loop.example/g03208/laws.FnExactRainbowSides", spec := "fnExactRainbowSides", unfollowed := true, recurses := true, plainKeys := false, apart := false, narrowed := true }
def FnExactRainbowSidesUptoSaid : Prop := fnExactRainbowSidesUptoRow.holds Try.pinned (OpenSpec.upto fnExactRainbowSidesSpec)

/-- 'laws.FnExactEqualCut', WHERE WHAT IT READS IS OF BULK AT MOST 1048576: true; the input reads as it did. -/
def fnExactEqualCutUptoRow : OpenClaim := { program := "ytihnhpohbpfkmaa", sum := "96dcb7ee52a279d83ab5b2ad9ebde40037fe1eb5e432902be7a77488d7dd4c53", func := "loop.example/g03208/laws.FnExactEqualCut", spec := "fnExactEqualCut", unfollowed := true, recurses := true, plainKeys := false, apart := false, narrowed := true }
def FnExactEqualCutUptoSaid : Prop := fnExactEqualCutUptoRow.holds Try.pinned (OpenSpec.upto fnExactEqualCutSpec)

/-- 'laws.FnExactCountRainbows', WHERE WHAT IT READS IS OF BULK AT MOST 1048576: true; the input reads as it did. -/
def fnExactCountRainbowsUptoRow : OpenClaim := { program := "ytihnhpohbpfkmaa", sum := "96dcb7ee52a279d83ab5b2ad9ebde40037fe1eb5e432902be7a77488d7dd4c53", func := "loop.example/g03208/laws.FnExactCountRainbows", spec := "fnExactCountRainbows", unfollowed := true, recurses := true, plainKeys := false, apart := false, narrowed := true }
def FnExactCountRainbowsUptoSaid : Prop := fnExactCountRainbowsUptoRow.holds Try.pinned (OpenSpec.upto fnExactCountRainbowsSpec)

end Rows
end Go.Proofs.Ytihnhpohbpfkmaa
