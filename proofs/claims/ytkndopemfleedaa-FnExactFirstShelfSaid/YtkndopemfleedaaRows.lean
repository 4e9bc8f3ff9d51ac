/-
  No cell of these rows narrows 'for every input' (looked for: loops, veiled, ifaces, maps, wideKeys, modest, calm, conditions, laid).
  DERIVED. THE GIVEN ROWS OF THIS SEAT. 8 by the template 'for every input the law returns true; each argument reads behind the call as it read before'; 0 by the template 'total and deterministic' (their statements: YtkndopemfleedaaTotals.lean).
  GIVEN WITH THE SEED: the statements are not yours to turn. If you find one false, say at which input.
  Laid BY PROGRAM, IN A SANDBOX (cutbox-rows.mjs): the forced cells as the released guide's own fill.sh prints them over the translation e679513884587753… (all of the seat's roots in one cut). By AI agents, Wed Nov 11 2026. No macro, syntax, notation, axiom, sorry.
-/
import Derived.Test.YtkndopemfleedaaChecked
import GoSem.Claim
import GoSem.ClaimJoined
import GoSem.ClaimMapViews
import Derived.JoinedTies
import Derived.KernelRfl
namespace Go.Proofs.Ytkndopemfleedaa
/- THE CELL 'sum', in the pinned program and in every row, IS THE sha256 OF THE DUMP (.gsa) THAT YtkndopemfleedaaProg.lean LOADS. Nothing in Lean hashes anything: it is a label: what it is worth is what the hold of that sum in a sandbox is worth. -/
noncomputable def Try.pinned : Pinned := { name := "ytkndopemfleedaa", sum := "e679513884587753fae574145f1bd72624d3c1d2caae9938b8900859707d98b2", checked := Try.checked }
namespace Rows
def none {H : Type} : Left H := { results := [], args := [] }

/-- 'laws.FnExactSquareSum': WHATEVER THE INPUT: true; the input reads as it did. -/
def fnExactSquareSumSpec : ChangeSpec := { name := "fnExactSquareSum", fn := fun _ => fun
  | [d1, d2] => { results := [.lit (.bool true)], args := [d1, d2] }
  | _ => none }
def fnExactSquareSumRow : OpenClaim := { program := "ytkndopemfleedaa", sum := "e679513884587753fae574145f1bd72624d3c1d2caae9938b8900859707d98b2", func := "loop.example/g03208/laws.FnExactSquareSum", spec := "fnExactSquareSum", unfollowed := true, recurses := true, plainKeys := false, apart := false }
def FnExactSquareSumSaid : Prop := fnExactSquareSumRow.holds Try.pinned (OpenSpec.ofChange fnExactSquareSumSpec)

/-- ITS FALSE NEIGHBOUR: 'it returns false'. Refute it at one input. -/
def fnExactSquareSumWrong : ChangeSpec := { name := "fnExactSquareSum", fn := fun _ => fun
  | [d1, d2] => { results := [.lit (.bool false)], args := [d1, d2] }
  | _ => none }
def FnExactSquareSumWrongFalsely : Prop := fnExactSquareSumRow.holds Try.pinned (OpenSpec.ofChange fnExactSquareSumWrong)

/-- 'laws.FnExactReducedCurrents': WHATEVER THE INPUT: true; the input reads as it did. -/
def fnExactReducedCurrentsSpec : ChangeSpec := { name := "fnExactReducedCurrents", fn := fun _ => fun
  | [d1, d2] => { results := [.lit (.bool true)], args := [d1, d2] }
  | _ => none }
def fnExactReducedCurrentsRow : OpenClaim := { program := "ytkndopemfleedaa", sum := "e679513884587753fae574145f1bd72624d3c1d2caae9938b8900859707d98b2", func := "loop.example/g03208/laws.FnExactReducedCurrents", spec := "fnExactReducedCurrents", unfollowed := true, recurses := true, plainKeys := false, apart := false }
def FnExactReducedCurrentsSaid : Prop := fnExactReducedCurrentsRow.holds Try.pinned (OpenSpec.ofChange fnExactReducedCurrentsSpec)

/-- ITS FALSE NEIGHBOUR: 'it returns false'. Refute it at one input. -/
def fnExactReducedCurrentsWrong : ChangeSpec := { name := "fnExactReducedCurrents", fn := fun _ => fun
  | [d1, d2] => { results := [.lit (.bool false)], args := [d1, d2] }
  | _ => none }
def FnExactReducedCurrentsWrongFalsely : Prop := fnExactReducedCurrentsRow.holds Try.pinned (OpenSpec.ofChange fnExactReducedCurrentsWrong)

/-- 'laws.FnExactFirstShelf': WHATEVER THE INPUT: true; the input reads as it did. -/
def fnExactFirstShelfSpec : ChangeSpec := { name := "fnExactFirstShelf", fn := fun _ => fun
  | [d1, d2] => { results := [.lit (.bool true)], args := [d1, d2] }
  | _ => none }
def fnExactFirstShelfRow : OpenClaim := { program := "ytkndopemfleedaa", sum := "e679513884587753fae574145f1bd72624d3c1d2caae9938b8900859707d98b2", func := "loop.example/g03208/laws.FnExactFirstShelf", spec := "fnExactFirstShelf", unfollowed := true, recurses := true, plainKeys := false, apart := false }
def FnExactFirstShelfSaid : Prop := fnExactFirstShelfRow.holds Try.pinned (OpenSpec.ofChange fnExactFirstShelfSpec)

/-- ITS FALSE NEIGHBOUR: 'it returns false'. Refute it at one input. -/
def fnExactFirstShelfWrong : ChangeSpec := { name := "fnExactFirstShelf", fn := fun _ => fun
  | [d1, d2] => { results := [.lit (.bool false)], args := [d1, d2] }
  | _ => none }
def FnExactFirstShelfWrongFalsely : Prop := fnExactFirstShelfRow.holds Try.pinned (OpenSpec.ofChange fnExactFirstShelfWrong)

/-- 'laws.FnExactNextShelf': WHATEVER THE INPUT: true; the input reads as it did. -/
def fnExactNextShelfSpec : ChangeSpec := { name := "fnExactNextShelf", fn := fun _ => fun
  | [d1, d2] => { results := [.lit (.bool true)], args := [d1, d2] }
  | _ => none }
def fnExactNextShelfRow : OpenClaim := { program := "ytkndopemfleedaa", sum := "e679513884587753fae574145f1bd72624d3c1d2caae9938b8900859707d98b2", func := "loop.example/g03208/laws.FnExactNextShelf", spec := "fnExactNextShelf", unfollowed := true, recurses := true, plainKeys := false, apart := false }
def FnExactNextShelfSaid : Prop := fnExactNextShelfRow.holds Try.pinned (OpenSpec.ofChange fnExactNextShelfSpec)

/-- ITS FALSE NEIGHBOUR: 'it returns false'. Refute it at one input. -/
def fnExactNextShelfWrong : ChangeSpec := { name := "fnExactNextShelf", fn := fun _ => fun
  | [d1, d2] => { results := [.lit (.bool false)], args := [d1, d2] }
  | _ => none }
def FnExactNextShelfWrongFalsely : Prop := fnExactNextShelfRow.holds Try.pinned (OpenSpec.ofChange fnExactNextShelfWrong)

/-- 'laws.FnExactIsRainbow': WHATEVER THE INPUT: true; the input reads as it did. -/
def fnExactIsRainbowSpec : ChangeSpec := { name := "fnExactIsRainbow", fn := fun _ => fun
  | [d1, d2, d3, d4] => { results := [.lit (.bool true)], args := [d1, d2, d3, d4] }
  | _ => none }
def fnExactIsRainbowRow : OpenClaim := { program := "ytkndopemfleedaa", sum := "e679513884587753fae574145f1bd72624d3c1d2caae9938b8900859707d98b2", func := "loop.example/g03208/laws.FnExactIsRainbow", spec := "fnExactIsRainbow", recurses := true, plainKeys := false, apart := false }
def FnExactIsRainbowSaid : Prop := fnExactIsRainbowRow.holds Try.pinned (OpenSpec.ofChange fnExactIsRainbowSpec)

/-- ITS FALSE NEIGHBOUR: 'it returns false'. Refute it at one input. -/
def fnExactIsRainbowWrong : ChangeSpec := { name := "fnExactIsRainbow", fn := fun _ => fun
  | [d1, d2, d3, d4] => { results := [.lit (.bool false)], args := [d1, d2, d3, d4] }
  | _ => none }
def FnExactIsRainbowWrongFalsely : Prop := fnExactIsRainbowRow.holds Try.pinned (OpenSpec.ofChange fnExactIsRainbowWrong)

/-- 'laws.FnExactEqualCut': WHATEVER THE INPUT: true; the input reads as it did. -/
def fnExactEqualCutSpec : ChangeSpec := { name := "fnExactEqualCut", fn := fun _ => fun
  | [d1, d2, d3] => { results := [.lit (.bool true)], args := [d1, d2, d3] }
  | _ => none }
def fnExactEqualCutRow : OpenClaim := { program := "ytkndopemfleedaa", sum := "e679513884587753fae574145f1bd72624d3c1d2caae9938b8900859707d98b2", func := "loop.example/g03208/laws.FnExactEqualCut", spec := "fnExactEqualCut", unfollowed := true, recurses := true, plainKeys := false, apart := false }
def FnExactEqualCutSaid : Prop := fnExactEqualCutRow.holds Try.pinned (OpenSpec.ofChange fnExactEqualCutSpec)

/-- ITS FALSE NEIGHBOUR: 'it returns false'. Refute it at one input. -/
def fnExactEqualCutWrong : ChangeSpec := { name := "fnExactEqualCut", fn := fun _ => fun
  | [d1, d2, d3] => { results := [.lit (.bool false)], args := [d1, d2, d3] }
  | _ => none }
def FnExactEqualCutWrongFalsely : Prop := fnExactEqualCutRow.holds Try.pinned (OpenSpec.ofChange fnExactEqualCutWrong)

/-- 'laws.FnExactColorsOn': WHATEVER THE INPUT: true; the input reads as it did. -/
def fnExactColorsOnSpec : ChangeSpec := { name := "fnExactColorsOn", fn := fun _ => fun
  | [d1, d2, d3] => { results := [.lit (.bool true)], args := [d1, d2, d3] }
  | _ => none }
def fnExactColorsOnRow : OpenClaim := { program := "ytkndopemfleedaa", sum := "e679513884587753fae574145f1bd72624d3c1d2caae9938b8900859707d98b2", func := "loop.example/g03208/laws.FnExactColorsOn", spec := "fnExactColorsOn", recurses := true, plainKeys := false, apart := false }
def FnExactColorsOnSaid : Prop := fnExactColorsOnRow.holds Try.pinned (OpenSpec.ofChange fnExactColorsOnSpec)

/-- ITS FALSE NEIGHBOUR: 'it returns false'. Refute it at one input. -/
def fnExactColorsOnWrong : ChangeSpec := { name := "fnExactColorsOn", fn := fun _ => fun
  | [d1, d2, d3] => { results := [.lit (.bool false)], args := [d1, d2, d3] }
  | _ => none }
def FnExactColorsOnWrongFalsely : Prop := fnExactColorsOnRow.holds Try.pinned (OpenSpec.ofChange fnExactColorsOnWrong)

/-- 'laws.FnExactCountRainbows': WHATEVER THE INPUT: true; the input reads as it did. -/
def fnExactCountRainbowsSpec : ChangeSpec := { name := "fnExactCountRainbows", fn := fun _ => fun
  | [d1, d2, d3] => { results := [.lit (.bool true)], args := [d1, d2, d3] }
  | _ => none }
def fnExactCountRainbowsRow : OpenClaim := { program := "ytkndopemfleedaa", sum := "e679513884587753fae574145f1bd72624d3c1d2caae9938b8900859707d98b2", func := "loop.example/g03208/laws.FnExactCountRainbows", spec := "fnExactCountRainbows", unfollowed := true, recurses := true, plainKeys := false, apart := false }
def FnExactCountRainbowsSaid : Prop := fnExactCountRainbowsRow.holds Try.pinned (OpenSpec.ofChange fnExactCountRainbowsSpec)

/-- ITS FALSE NEIGHBOUR: 'it returns false'. Refute it at one input. -/
def fnExactCountRainbowsWrong : ChangeSpec := { name := "fnExactCountRainbows", fn := fun _ => fun
  | [d1, d2, d3] => { results := [.lit (.bool false)], args := [d1, d2, d3] }
  | _ => none }
def FnExactCountRainbowsWrongFalsely : Prop := fnExactCountRainbowsRow.holds Try.pinned (OpenSpec.ofChange fnExactCountRainbowsWrong)

/- THE SECOND FORM. 'bulk': how many values and letters a reading holds, each counted each time it is reached (what is shared counts as often as it is met; a slice's spare places count too). A statement '..UptoSaid' is the law's where the arguments, and the package variables that the reading takes, are together of bulk at most 1048576: NARROWER than '..Said'. Prove '..Said' where nothing that the law and all that it calls make is longer than what came in: it says more and counts as full. Else prove '..UptoSaid'. A law counts once. -/
mutual
def uptoBulk {H : Type} : DataW H → Nat
  | .lit (.string bytes) => bytes.length + 1
  | .lit _ => 1
  | .nil => 1
  | .ptr d => uptoBulk d + 1
  | .slice elems spare => uptoBulkAll elems + uptoBulkAll spare + 1
  | .agg parts => uptoBulkAll parts + 1
  | .iface _ d => uptoBulk d + 1
  | .map entries => uptoBulkEntries entries + 1
  | .held _ => 1
def uptoBulkAll {H : Type} : List (DataW H) → Nat
  | [] => 0
  | d :: r => uptoBulk d + uptoBulkAll r
def uptoBulkEntries {H : Type} : List (Lit × DataW H) → Nat
  | [] => 0
  | x :: r => uptoBulkEntry x + uptoBulkEntries r
def uptoBulkEntry {H : Type} : Lit × DataW H → Nat
  | (.string bytes, d) => bytes.length + uptoBulk d + 1
  | (_, d) => uptoBulk d + 1
 end
def uptoSmall : (H : Type) → List (DataW H) → Bool := fun _ ds => decide (uptoBulkAll ds ≤ 1048576)
def OpenSpec.upto (s : _root_.Go.ChangeSpec) : _root_.Go.OpenSpec := { _root_.Go.OpenSpec.ofChange s with cond := some uptoSmall }

/-- 'laws.FnExactSquareSum', WHERE WHAT IT READS IS OF BULK AT MOST 1048576: true; the input reads as it did. -/
def fnExactSquareSumUptoRow : OpenClaim := { program := "ytkndopemfleedaa", sum := "e679513884587753fae574145f1bd72624d3c1d2caae9938b8900859707d98b2", func := "loop.example/g03208/laws.FnExactSquareSum", spec := "fnExactSquareSum", unfollowed := true, recurses := true, plainKeys := false, apart := false, narrowed := true }
def FnExactSquareSumUptoSaid : Prop := fnExactSquareSumUptoRow.holds Try.pinned (OpenSpec.upto fnExactSquareSumSpec)

/-- 'laws.FnExactReducedCurrents', WHERE WHAT IT READS IS OF BULK AT MOST 1048576: true; the input reads as it did. -/
def fnExactReducedCurrentsUptoRow : OpenClaim := { program := "ytkndopemfleedaa", sum := "e679513884587753fae574145f1bd72624d3c1d2caae9938b8900859707d98b2", func := "loop.example/g03208/laws.FnExactReducedCurrents", spec := "fnExactReducedCurrents", unfollowed := true, recurses := true, plainKeys := false, apart := false, narrowed := true }
def FnExactReducedCurrentsUptoSaid : Prop := fnExactReducedCurrentsUptoRow.holds Try.pinned (OpenSpec.upto fnExactReducedCurrentsSpec)

/-- 'laws.FnExactFirstShelf', WHERE WHAT IT READS IS OF BULK AT MOST 1048576: true; the input reads as it did. -/
def fnExactFirstShelfUptoRow : OpenClaim := { program := "ytkndopemfleedaa", sum := "e679513884587753fae574145f1bd72624d3c1d2caae9938b8900859707d98b2", func := "loop.example/g03208/laws.FnExactFirstShelf", spec := "fnExactFirstShelf", unfollowed := true, recurses := true, plainKeys := false, apart := false, narrowed := true }
def FnExactFirstShelfUptoSaid : Prop := fnExactFirstShelfUptoRow.holds Try.pinned (OpenSpec.upto fnExactFirstShelfSpec)

/-- 'laws.FnExactNextShelf', WHERE WHAT IT READS IS OF BULK AT MOST 1048576: true; the input reads as it did. -/
def fnExactNextShelfUptoRow : OpenClaim := { program := "ytkndopemfleedaa", sum := "e679513884587753fae574145f1bd72624d3c1d2caae9938b8900859707d98b2", func := "loop.example/g03208/laws.FnExactNextShelf", spec := "fnExactNextShelf", unfollowed := true, recurses := true, plainKeys := false, apart := false, narrowed := true }
def FnExactNextShelfUptoSaid : Prop := fnExactNextShelfUptoRow.holds Try.pinned (OpenSpec.upto fnExactNextShelfSpec)

/-- 'laws.FnExactIsRainbow', WHERE WHAT IT READS IS OF BULK AT MOST 1048576: true; the input reads as it did. -/
def fnExactIsRainbowUptoRow : OpenClaim := { program := "ytkndopemfleedaa", sum := "e679513884587753fae574145f1bd72624d3c1d2caae9938b8900859707d98b2", func := "loop.example/g03208/laws.FnExactIsRainbow", spec := "fnExactIsRainbow", recurses := true, plainKeys := false, apart := false, narrowed := true }
def FnExactIsRainbowUptoSaid : Prop := fnExactIsRainbowUptoRow.holds Try.pinned (OpenSpec.upto fnExactIsRainbowSpec)

/-- 'laws.FnExactEqualCut', WHERE WHAT IT READS IS OF BULK AT MOST 1048576: true; the input reads as it did. -/
def fnExactEqualCutUptoRow : OpenClaim := { program := "ytkndopemfleedaa", sum := "e679513884587753fae574145f1bd72624d3c1d2caae9938b8900859707d98b2", func := "loop.example/g03208/laws.FnExactEqualCut", spec := "fnExactEqualCut", unfollowed := true, recurses := true, plainKeys := false, apart := false, narrowed := true }
def FnExactEqualCutUptoSaid : Prop := fnExactEqualCutUptoRow.holds Try.pinned (OpenSpec.upto fnExactEqualCutSpec)

/-- 'laws.FnExactColorsOn', WHERE WHAT IT READS IS OF BULK AT MOST 1048576: true; the input reads as it did. -/
def fnExactColorsOnUptoRow : OpenClaim := { program := "ytkndopemfleedaa", sum := "e679513884587753fae574145f1bd72624d3c1d2caae9938b8900859707d98b2", func := "loop.example/g03208/laws.FnExactColorsOn", spec := "fnExactColorsOn", recurses := true, plainKeys := false, apart := false, narrowed := true }
def FnExactColorsOnUptoSaid : Prop := fnExactColorsOnUptoRow.holds Try.pinned (OpenSpec.upto fnExactColorsOnSpec)

/-- 'laws.FnExactCountRainbows', WHERE WHAT IT READS IS OF BULK AT MOST 1048576: true; the input reads as it did. -/
def fnExactCountRainbowsUptoRow : OpenClaim := { program := "ytkndopemfleedaa", sum := "e679513884587753fae574145f1bd72624d3c1d2caae9938b8900859707d98b2", func := "loop.example/g03208/laws.FnExactCountRainbows", spec := "fnExactCountRainbows", unfollowed := true, recurses := true, plainKeys := false, apart := false, narrowed := true }
def FnExactCountRainbowsUptoSaid : Prop := fnExactCountRainbowsUptoRow.holds Try.pinned (OpenSpec.upto fnExactCountRainbowsSpec)

end Rows
end Go.Proofs.Ytkndopemfleedaa
