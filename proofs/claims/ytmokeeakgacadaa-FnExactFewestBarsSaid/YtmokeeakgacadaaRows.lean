/-
  No cell of these rows narrows 'for every input' (looked for: loops, veiled, ifaces, maps, wideKeys, modest, calm, conditions, laid).
  DERIVED. THE GIVEN ROWS OF THIS SEAT. 10 by the template 'for every input the law returns true; each argument reads behind the call as it read before'; 0 by the template 'total and deterministic' (their statements: YtmokeeakgacadaaTotals.lean).
  GIVEN WITH THE SEED: the statements are not yours to turn. If you find one false, say at which input.
  Laid BY PROGRAM, IN A SANDBOX (cutbox-rows.mjs): the forced cells as the released guide's own fill.sh prints them over the translation 6cf3b7fef65ab798… (all of the seat's roots in one cut). By AI agents, Wed Nov 11 2026. No macro, syntax, notation, axiom, sorry.
-/
import Derived.Test.YtmokeeakgacadaaChecked
import GoSem.Claim
import GoSem.ClaimJoined
import GoSem.ClaimMapViews
import Derived.JoinedTies
import Derived.KernelRfl
namespace Go.Proofs.Ytmokeeakgacadaa
/- THE CELL 'sum', in the pinned program and in every row, IS THE sha256 OF THE DUMP (.gsa) THAT YtmokeeakgacadaaProg.lean LOADS. Nothing in Lean hashes anything: it is a label: what it is worth is what the hold of that sum in a sandbox is worth. -/
noncomputable def Try.pinned : Pinned := { name := "ytmokeeakgacadaa", sum := "6cf3b7fef65ab79865716ae07df49c49ad361c4c04793567b6698dd08670560c", checked := Try.checked }
namespace Rows
def none {H : Type} : Left H := { results := [], args := [] }

/-- 'laws.FnExactFewestBars': WHATEVER THE INPUT: true; the input reads as it did. -/
def fnExactFewestBarsSpec : ChangeSpec := { name := "fnExactFewestBars", fn := fun _ => fun
  | [d1, d2] => { results := [.lit (.bool true)], args := [d1, d2] }
  | _ => none }
def fnExactFewestBarsRow : OpenClaim := { program := "ytmokeeakgacadaa", sum := "6cf3b7fef65ab79865716ae07df49c49ad361c4c04793567b6698dd08670560c", func := "loop.example/g03208/laws.FnExactFewestBars", spec := "fnExactFewestBars", unfollowed := true, recurses := true, apart := false }
def FnExactFewestBarsSaid : Prop := fnExactFewestBarsRow.holds Try.pinned (OpenSpec.ofChange fnExactFewestBarsSpec)

/-- ITS FALSE NEIGHBOUR: 'it returns false'. Refute it at one input. -/
def fnExactFewestBarsWrong : ChangeSpec := { name := "fnExactFewestBars", fn := fun _ => fun
  | [d1, d2] => { results := [.lit (.bool false)], args := [d1, d2] }
  | _ => none }
def FnExactFewestBarsWrongFalsely : Prop := fnExactFewestBarsRow.holds Try.pinned (OpenSpec.ofChange fnExactFewestBarsWrong)

/-- 'laws.FnExactWireOf': WHATEVER THE INPUT: true; the input reads as it did. -/
def fnExactWireOfSpec : ChangeSpec := { name := "fnExactWireOf", fn := fun _ => fun
  | [d1, d2, d3, d4] => { results := [.lit (.bool true)], args := [d1, d2, d3, d4] }
  | _ => none }
def fnExactWireOfRow : OpenClaim := { program := "ytmokeeakgacadaa", sum := "6cf3b7fef65ab79865716ae07df49c49ad361c4c04793567b6698dd08670560c", func := "loop.example/g03208/laws.FnExactWireOf", spec := "fnExactWireOf", apart := false }
def FnExactWireOfSaid : Prop := fnExactWireOfRow.holds Try.pinned (OpenSpec.ofChange fnExactWireOfSpec)

/-- ITS FALSE NEIGHBOUR: 'it returns false'. Refute it at one input. -/
def fnExactWireOfWrong : ChangeSpec := { name := "fnExactWireOf", fn := fun _ => fun
  | [d1, d2, d3, d4] => { results := [.lit (.bool false)], args := [d1, d2, d3, d4] }
  | _ => none }
def FnExactWireOfWrongFalsely : Prop := fnExactWireOfRow.holds Try.pinned (OpenSpec.ofChange fnExactWireOfWrong)

/-- 'laws.FnExactCountTrees': WHATEVER THE INPUT: true; the input reads as it did. -/
def fnExactCountTreesSpec : ChangeSpec := { name := "fnExactCountTrees", fn := fun _ => fun
  | [d1, d2] => { results := [.lit (.bool true)], args := [d1, d2] }
  | _ => none }
def fnExactCountTreesRow : OpenClaim := { program := "ytmokeeakgacadaa", sum := "6cf3b7fef65ab79865716ae07df49c49ad361c4c04793567b6698dd08670560c", func := "loop.example/g03208/laws.FnExactCountTrees", spec := "fnExactCountTrees", unfollowed := true, recurses := true, apart := false }
def FnExactCountTreesSaid : Prop := fnExactCountTreesRow.holds Try.pinned (OpenSpec.ofChange fnExactCountTreesSpec)

/-- ITS FALSE NEIGHBOUR: 'it returns false'. Refute it at one input. -/
def fnExactCountTreesWrong : ChangeSpec := { name := "fnExactCountTrees", fn := fun _ => fun
  | [d1, d2] => { results := [.lit (.bool false)], args := [d1, d2] }
  | _ => none }
def FnExactCountTreesWrongFalsely : Prop := fnExactCountTreesRow.holds Try.pinned (OpenSpec.ofChange fnExactCountTreesWrong)

/-- 'laws.FnExactWareCounts': WHATEVER THE INPUT: true; the input reads as it did. -/
def fnExactWareCountsSpec : ChangeSpec := { name := "fnExactWareCounts", fn := fun _ => fun
  | [d1, d2] => { results := [.lit (.bool true)], args := [d1, d2] }
  | _ => none }
def fnExactWareCountsRow : OpenClaim := { program := "ytmokeeakgacadaa", sum := "6cf3b7fef65ab79865716ae07df49c49ad361c4c04793567b6698dd08670560c", func := "loop.example/g03208/laws.FnExactWareCounts", spec := "fnExactWareCounts", inPlace := ["internal/bytealg.CountString", "internal/bytealg.IndexByteString", "internal/bytealg.IndexString"], unfollowed := true, recurses := true, named := ["internal/bytealg.MaxLen"], apart := false }
def FnExactWareCountsSaid : Prop := fnExactWareCountsRow.holds Try.pinned (OpenSpec.ofChange fnExactWareCountsSpec)

/-- ITS FALSE NEIGHBOUR: 'it returns false'. Refute it at one input. -/
def fnExactWareCountsWrong : ChangeSpec := { name := "fnExactWareCounts", fn := fun _ => fun
  | [d1, d2] => { results := [.lit (.bool false)], args := [d1, d2] }
  | _ => none }
def FnExactWareCountsWrongFalsely : Prop := fnExactWareCountsRow.holds Try.pinned (OpenSpec.ofChange fnExactWareCountsWrong)

/-- 'laws.FnExactPotentialsOf': WHATEVER THE INPUT: true; the input reads as it did. -/
def fnExactPotentialsOfSpec : ChangeSpec := { name := "fnExactPotentialsOf", fn := fun _ => fun
  | [d1, d2] => { results := [.lit (.bool true)], args := [d1, d2] }
  | _ => none }
def fnExactPotentialsOfRow : OpenClaim := { program := "ytmokeeakgacadaa", sum := "6cf3b7fef65ab79865716ae07df49c49ad361c4c04793567b6698dd08670560c", func := "loop.example/g03208/laws.FnExactPotentialsOf", spec := "fnExactPotentialsOf", unfollowed := true, recurses := true, apart := false }
def FnExactPotentialsOfSaid : Prop := fnExactPotentialsOfRow.holds Try.pinned (OpenSpec.ofChange fnExactPotentialsOfSpec)

/-- ITS FALSE NEIGHBOUR: 'it returns false'. Refute it at one input. -/
def fnExactPotentialsOfWrong : ChangeSpec := { name := "fnExactPotentialsOf", fn := fun _ => fun
  | [d1, d2] => { results := [.lit (.bool false)], args := [d1, d2] }
  | _ => none }
def FnExactPotentialsOfWrongFalsely : Prop := fnExactPotentialsOfRow.holds Try.pinned (OpenSpec.ofChange fnExactPotentialsOfWrong)

/-- 'laws.FnExactByHeight': WHATEVER THE INPUT: true; the input reads as it did. -/
def fnExactByHeightSpec : ChangeSpec := { name := "fnExactByHeight", fn := fun _ => fun
  | [d] => { results := [.lit (.bool true)], args := [d] }
  | _ => none }
def fnExactByHeightRow : OpenClaim := { program := "ytmokeeakgacadaa", sum := "6cf3b7fef65ab79865716ae07df49c49ad361c4c04793567b6698dd08670560c", func := "loop.example/g03208/laws.FnExactByHeight", spec := "fnExactByHeight", unfollowed := true, recurses := true, apart := false }
def FnExactByHeightSaid : Prop := fnExactByHeightRow.holds Try.pinned (OpenSpec.ofChange fnExactByHeightSpec)

/-- ITS FALSE NEIGHBOUR: 'it returns false'. Refute it at one input. -/
def fnExactByHeightWrong : ChangeSpec := { name := "fnExactByHeight", fn := fun _ => fun
  | [d] => { results := [.lit (.bool false)], args := [d] }
  | _ => none }
def FnExactByHeightWrongFalsely : Prop := fnExactByHeightRow.holds Try.pinned (OpenSpec.ofChange fnExactByHeightWrong)

/-- 'laws.FnExactCurrentsOf': WHATEVER THE INPUT: true; the input reads as it did. -/
def fnExactCurrentsOfSpec : ChangeSpec := { name := "fnExactCurrentsOf", fn := fun _ => fun
  | [d1, d2] => { results := [.lit (.bool true)], args := [d1, d2] }
  | _ => none }
def fnExactCurrentsOfRow : OpenClaim := { program := "ytmokeeakgacadaa", sum := "6cf3b7fef65ab79865716ae07df49c49ad361c4c04793567b6698dd08670560c", func := "loop.example/g03208/laws.FnExactCurrentsOf", spec := "fnExactCurrentsOf", unfollowed := true, recurses := true, apart := false }
def FnExactCurrentsOfSaid : Prop := fnExactCurrentsOfRow.holds Try.pinned (OpenSpec.ofChange fnExactCurrentsOfSpec)

/-- ITS FALSE NEIGHBOUR: 'it returns false'. Refute it at one input. -/
def fnExactCurrentsOfWrong : ChangeSpec := { name := "fnExactCurrentsOf", fn := fun _ => fun
  | [d1, d2] => { results := [.lit (.bool false)], args := [d1, d2] }
  | _ => none }
def FnExactCurrentsOfWrongFalsely : Prop := fnExactCurrentsOfRow.holds Try.pinned (OpenSpec.ofChange fnExactCurrentsOfWrong)

/-- 'laws.FnExactLongFirst': WHATEVER THE INPUT: true; the input reads as it did. -/
def fnExactLongFirstSpec : ChangeSpec := { name := "fnExactLongFirst", fn := fun _ => fun
  | [d1, d2] => { results := [.lit (.bool true)], args := [d1, d2] }
  | _ => none }
def fnExactLongFirstRow : OpenClaim := { program := "ytmokeeakgacadaa", sum := "6cf3b7fef65ab79865716ae07df49c49ad361c4c04793567b6698dd08670560c", func := "loop.example/g03208/laws.FnExactLongFirst", spec := "fnExactLongFirst", unfollowed := true, recurses := true, apart := false }
def FnExactLongFirstSaid : Prop := fnExactLongFirstRow.holds Try.pinned (OpenSpec.ofChange fnExactLongFirstSpec)

/-- ITS FALSE NEIGHBOUR: 'it returns false'. Refute it at one input. -/
def fnExactLongFirstWrong : ChangeSpec := { name := "fnExactLongFirst", fn := fun _ => fun
  | [d1, d2] => { results := [.lit (.bool false)], args := [d1, d2] }
  | _ => none }
def FnExactLongFirstWrongFalsely : Prop := fnExactLongFirstRow.holds Try.pinned (OpenSpec.ofChange fnExactLongFirstWrong)

/-- 'laws.FnExactRainbowSides': WHATEVER THE INPUT: true; the input reads as it did. -/
def fnExactRainbowSidesSpec : ChangeSpec := { name := "fnExactRainbowSides", fn := fun _ => fun
  | [d1, d2] => { results := [.lit (.bool true)], args := [d1, d2] }
  | _ => none }
def fnExactRainbowSidesRow : OpenClaim := { program := "ytmokeeakgacadaa", sum := "6cf3b7fef65ab79865716ae07df49c49ad361c4c04793567b6698dd08670560c", func := "loop.example/g03208/laws.FnExactRainbowSides", spec := "fnExactRainbowSides", unfollowed := true, recurses := true, apart := false }
def FnExactRainbowSidesSaid : Prop := fnExactRainbowSidesRow.holds Try.pinned (OpenSpec.ofChange fnExactRainbowSidesSpec)

/-- ITS FALSE NEIGHBOUR: 'it returns false'. Refute it at one input. -/
def fnExactRainbowSidesWrong : ChangeSpec := { name := "fnExactRainbowSides", fn := fun _ => fun
  | [d1, d2] => { results := [.lit (.bool false)], args := [d1, d2] }
  | _ => none }
def FnExactRainbowSidesWrongFalsely : Prop := fnExactRainbowSidesRow.holds Try.pinned (OpenSpec.ofChange fnExactRainbowSidesWrong)

/-- 'laws.FnExactRectangleSides': WHATEVER THE INPUT: true; the input reads as it did. -/
def fnExactRectangleSidesSpec : ChangeSpec := { name := "fnExactRectangleSides", fn := fun _ => fun
  | [d1, d2] => { results := [.lit (.bool true)], args := [d1, d2] }
  | _ => none }
def fnExactRectangleSidesRow : OpenClaim := { program := "ytmokeeakgacadaa", sum := "6cf3b7fef65ab79865716ae07df49c49ad361c4c04793567b6698dd08670560c", func := "loop.example/g03208/laws.FnExactRectangleSides", spec := "fnExactRectangleSides", unfollowed := true, recurses := true, apart := false }
def FnExactRectangleSidesSaid : Prop := fnExactRectangleSidesRow.holds Try.pinned (OpenSpec.ofChange fnExactRectangleSidesSpec)

/-- ITS FALSE NEIGHBOUR: 'it returns false'. Refute it at one input. -/
def fnExactRectangleSidesWrong : ChangeSpec := { name := "fnExactRectangleSides", fn := fun _ => fun
  | [d1, d2] => { results := [.lit (.bool false)], args := [d1, d2] }
  | _ => none }
def FnExactRectangleSidesWrongFalsely : Prop := fnExactRectangleSidesRow.holds Try.pinned (OpenSpec.ofChange fnExactRectangleSidesWrong)

/- THE SECOND FORM. 'bulk': how many values and letters a reading holds, each counted each time it is reached (what is shared counts as often as it is met; a slice's spare places count too). A statement '..UptoSaid' is the law's where the arguments, and the package variables that the reading takes, are together of bulk at most 1048576: NARROWER than '..Said'. Prove '..Said' where nothing that the law and all that it calls make is longer than what came in: it says more and counts as full. Else prove '..UptoSaid'. A law counts once. -/
mutual
def uptoBulk {H : Type} : DataW H → Nat
  | .lit (.string bytes) => bytes.length + 1
  | .lit _ => 1
  | .nil => 1
  | .ptr d => uptoBulk d + 1
  | .slice elems spare => uptoBulkAll elems + uptoBulkAll spare + 1
  | .agg parts => uptoBulkAll parts + 1
  | .iface _ d => uptoBulk d + 1
  | .map entries => uptoBulkEntries entries + 1
  | .held _ => 1
def uptoBulkAll {H : Type} : List (DataW H) → Nat
  | [] => 0
  | d :: r => uptoBulk d + uptoBulkAll r
def uptoBulkEntries {H : Type} : List (Lit × DataW H) → Nat
  | [] => 0
  | x :: r => uptoBulkEntry x + uptoBulkEntries r
def uptoBulkEntry {H : Type} : Lit × DataW H → Nat
  | (.string bytes, d) => bytes.length + uptoBulk d + 1
  | (_, d) => uptoBulk d + 1
 end
def uptoSmall : (H : Type) → List (DataW H) → Bool := fun _ ds => decide (uptoBulkAll ds ≤ 1048576)
def OpenSpec.upto (s : _root_.Go.ChangeSpec) : _root_.Go.OpenSpec := { _root_.Go.OpenSpec.ofChange s with cond := some uptoSmall }

/-- 'laws.FnExactFewestBars', WHERE WHAT IT READS IS OF BULK AT MOST 1048576: true; the input reads as it did. -/
def fnExactFewestBarsUptoRow : OpenClaim := { program := "ytmokeeakgacadaa", sum := "6cf3b7fef65ab79865716ae07df49c49ad361c4c04793567b6698dd08670560c", func := "loop.example/g03208/laws.FnExactFewestBars", spec := "fnExactFewestBars", unfollowed := true, recurses := true, apart := false, narrowed := true }
def FnExactFewestBarsUptoSaid : Prop := fnExactFewestBarsUptoRow.holds Try.pinned (OpenSpec.upto fnExactFewestBarsSpec)

/-- 'laws.FnExactWireOf', WHERE WHAT IT READS IS OF BULK AT MOST 1048576: true; the input reads as it did. -/
def fnExactWireOfUptoRow : OpenClaim := { program := "ytmokeeakgacadaa", sum := "6cf3b7fef65ab79865716ae07df49c49ad361c4c04793567b6698dd08670560c", func := "loop.example/g03208/laws.FnExactWireOf", spec := "fnExactWireOf", apart := false, narrowed := true }
def FnExactWireOfUptoSaid : Prop := fnExactWireOfUptoRow.holds Try.pinned (OpenSpec.upto fnExactWireOfSpec)

/-- 'laws.FnExactCountTrees', WHERE WHAT IT READS IS OF BULK AT MOST 1048576: true; the input reads as it did. -/
def fnExactCountTreesUptoRow : OpenClaim := { program := "ytmokeeakgacadaa", sum := "6cf3b7fef65ab79865716ae07df49c49ad361c4c04793567b6698dd08670560c", func := "loop.example/g03208/laws.FnExactCountTrees", spec := "fnExactCountTrees", unfollowed := true, recurses := true, apart := false, narrowed := true }
def FnExactCountTreesUptoSaid : Prop := fnExactCountTreesUptoRow.holds Try.pinned (OpenSpec.upto fnExactCountTreesSpec)

/-- 'laws.FnExactWareCounts', WHERE WHAT IT READS IS OF BULK AT MOST 1048576: true; the input reads as it did. -/
def fnExactWareCountsUptoRow : OpenClaim := { program := "ytmokeeakgacadaa", sum := "6cf3b7fef65ab79865716ae07df49c49ad361c4c04793567b6698dd08670560c", func := "loop.example/g03208/laws.FnExactWareCounts", spec := "fnExactWareCounts", inPlace := ["internal/bytealg.CountString", "internal/bytealg.IndexByteString", "internal/bytealg.IndexString"], unfollowed := true, recurses := true, named := ["internal/bytealg.MaxLen"], apart := false, narrowed := true }
def FnExactWareCountsUptoSaid : Prop := fnExactWareCountsUptoRow.holds Try.pinned (OpenSpec.upto fnExactWareCountsSpec)

/-- 'laws.FnExactPotentialsOf', WHERE WHAT IT READS IS OF BULK AT MOST 1048576: true; the input reads as it did. -/
def fnExactPotentialsOfUptoRow : OpenClaim := { program := "ytmokeeakgacadaa", sum := "6cf3b7fef65ab79865716ae07df49c49ad361c4c04793567b6698dd08670560c", func := "loop.example/g03208/laws.FnExactPotentialsOf", spec := "fnExactPotentialsOf", unfollowed := true, recurses := true, apart := false, narrowed := true }
def FnExactPotentialsOfUptoSaid : Prop := fnExactPotentialsOfUptoRow.holds Try.pinned (OpenSpec.upto fnExactPotentialsOfSpec)

/-- 'laws.FnExactByHeight', WHERE WHAT IT READS IS OF BULK AT MOST 1048576: true; the input reads as it did. -/
def fnExactByHeightUptoRow : OpenClaim := { program := "ytmokeeakgacadaa", sum := "6cf3b7fef65ab79865716ae07df49c49ad361c4c04793567b6698dd08670560c", func := "loop.example/g03208/laws.FnExactByHeight", spec := "fnExactByHeight", unfollowed := true, recurses := true, apart := false, narrowed := true }
def FnExactByHeightUptoSaid : Prop := fnExactByHeightUptoRow.holds Try.pinned (OpenSpec.upto fnExactByHeightSpec)

/-- 'laws.FnExactCurrentsOf', WHERE WHAT IT READS IS OF BULK AT MOST 1048576: true; the input reads as it did. -/
def fnExactCurrentsOfUptoRow : OpenClaim := { program := "ytmokeeakgacadaa", sum := "6cf3b7fef65ab79865716ae07df49c49ad361c4c04793567b6698dd08670560c", func := "loop.example/g03208/laws.FnExactCurrentsOf", spec := "fnExactCurrentsOf", unfollowed := true, recurses := true, apart := false, narrowed := true }
def FnExactCurrentsOfUptoSaid : Prop := fnExactCurrentsOfUptoRow.holds Try.pinned (OpenSpec.upto fnExactCurrentsOfSpec)

/-- 'laws.FnExactLongFirst', WHERE WHAT IT READS IS OF BULK AT MOST 1048576: true; the input reads as it did. -/
def fnExactLongFirstUptoRow : OpenClaim := { program := "ytmokeeakgacadaa", sum := "6cf3b7fef65ab79865716ae07df49c49ad361c4c04793567b6698dd08670560c", func := "loop.example/g03208/laws.FnExactLongFirst", spec := "fnExactLongFirst", unfollowed := true, recurses := true, apart := false, narrowed := true }
def FnExactLongFirstUptoSaid : Prop := fnExactLongFirstUptoRow.holds Try.pinned (OpenSpec.upto fnExactLongFirstSpec)

/-- 'laws.FnExactRainbowSides', WHERE WHAT IT READS IS OF BULK AT MOST 1048576: true; the input reads as it did. -/
def fnExactRainbowSidesUptoRow : OpenClaim := { program := "ytmokeeakgacadaa", sum := "6cf3b7fef65ab79865716ae07df49c49ad361c4c04793567b6698dd08670560c", func := "loop.example/g03208/laws.FnExactRainbowSides", spec := "fnExactRainbowSides", unfollowed := true, recurses := true, apart := false, narrowed := true }
def FnExactRainbowSidesUptoSaid : Prop := fnExactRainbowSidesUptoRow.holds Try.pinned (OpenSpec.upto fnExactRainbowSidesSpec)

/-- 'laws.FnExactRectangleSides', WHERE WHAT IT READS IS OF BULK AT MOST 1048576: true; the input reads as it did. -/
def fnExactRectangleSidesUptoRow : OpenClaim := { program := "ytmokeeakgacadaa", sum := "6cf3b7fef65ab79865716ae07df49c49ad361c4c04793567b6698dd08670560c", func := "loop.example/g03208/laws.FnExactRectangleSides", spec := "fnExactRectangleSides", unfollowed := true, recurses := true, apart := false, narrowed := true }
def FnExactRectangleSidesUptoSaid : Prop := fnExactRectangleSidesUptoRow.holds Try.pinned (OpenSpec.upto fnExactRectangleSidesSpec)

end Rows
end Go.Proofs.Ytmokeeakgacadaa
