/-
  No cell of these rows narrows 'for every input' (looked for: loops, veiled, ifaces, maps, wideKeys, modest, calm, conditions, laid).
  DERIVED. THE GIVEN ROWS OF THIS SEAT. 12 by the template 'for every input the law returns true; each argument reads behind the call as it read before'; 0 by the template 'total and deterministic' (their statements: YtcmmammefghjdaaTotals.lean).
  GIVEN WITH THE SEED: the statements are not yours to turn. If you find one false, say at which input.
  Laid BY PROGRAM, IN A SANDBOX (cutbox-rows.mjs): the forced cells as the released guide's own fill.sh prints them over the translation c40cb172253f321d… (all of the seat's roots in one cut). By AI agents, Wed Nov 11 2026. No macro, syntax, notation, axiom, sorry.
-/
import Derived.Test.YtcmmammefghjdaaChecked
import GoSem.Claim
import GoSem.ClaimJoined
import GoSem.ClaimMapViews
import Derived.JoinedTies
import Derived.KernelRfl
namespace Go.Proofs.Ytcmmammefghjdaa
/- THE CELL 'sum', in the pinned program and in every row, IS THE sha256 OF THE DUMP (.gsa) THAT YtcmmammefghjdaaProg.lean LOADS. Nothing in Lean hashes anything: it is a label: what it is worth is what the hold of that sum in a sandbox is worth. -/
noncomputable def Try.pinned : Pinned := { name := "ytcmmammefghjdaa", sum := "c40cb172253f321dddb630ea1c9d804e3ccf2ba25b407b60b600747e254872e2", checked := Try.checked }
namespace Rows
def none {H : Type} : Left H := { results := [], args := [] }

/-- 'laws.FnExactBarPlanOk': WHATEVER THE INPUT: true; the input reads as it did. -/
def fnExactBarPlanOkSpec : ChangeSpec := { name := "fnExactBarPlanOk", fn := fun _ => fun
  | [d1, d2, d3] => { results := [.lit (.bool true)], args := [d1, d2, d3] }
  | _ => none }
def fnExactBarPlanOkRow : OpenClaim := { program := "ytcmmammefghjdaa", sum := "c40cb172253f321dddb630ea1c9d804e3ccf2ba25b407b60b600747e254872e2", func := "loop.example/g03208/laws.FnExactBarPlanOk", spec := "fnExactBarPlanOk", unfollowed := true, recurses := true, apart := false }
def FnExactBarPlanOkSaid : Prop := fnExactBarPlanOkRow.holds Try.pinned (OpenSpec.ofChange fnExactBarPlanOkSpec)

/-- ITS FALSE NEIGHBOUR: 'it returns false'. Refute it at one input. -/
def fnExactBarPlanOkWrong : ChangeSpec := { name := "fnExactBarPlanOk", fn := fun _ => fun
  | [d1, d2, d3] => { results := [.lit (.bool false)], args := [d1, d2, d3] }
  | _ => none }
def FnExactBarPlanOkWrongFalsely : Prop := fnExactBarPlanOkRow.holds Try.pinned (OpenSpec.ofChange fnExactBarPlanOkWrong)

/-- 'laws.FnExactWasteOf': WHATEVER THE INPUT: true; the input reads as it did. -/
def fnExactWasteOfSpec : ChangeSpec := { name := "fnExactWasteOf", fn := fun _ => fun
  | [d1, d2, d3] => { results := [.lit (.bool true)], args := [d1, d2, d3] }
  | _ => none }
def fnExactWasteOfRow : OpenClaim := { program := "ytcmmammefghjdaa", sum := "c40cb172253f321dddb630ea1c9d804e3ccf2ba25b407b60b600747e254872e2", func := "loop.example/g03208/laws.FnExactWasteOf", spec := "fnExactWasteOf", unfollowed := true, recurses := true, apart := false }
def FnExactWasteOfSaid : Prop := fnExactWasteOfRow.holds Try.pinned (OpenSpec.ofChange fnExactWasteOfSpec)

/-- ITS FALSE NEIGHBOUR: 'it returns false'. Refute it at one input. -/
def fnExactWasteOfWrong : ChangeSpec := { name := "fnExactWasteOf", fn := fun _ => fun
  | [d1, d2, d3] => { results := [.lit (.bool false)], args := [d1, d2, d3] }
  | _ => none }
def FnExactWasteOfWrongFalsely : Prop := fnExactWasteOfRow.holds Try.pinned (OpenSpec.ofChange fnExactWasteOfWrong)

/-- 'laws.FnExactIsTightPlan': WHATEVER THE INPUT: true; the input reads as it did. -/
def fnExactIsTightPlanSpec : ChangeSpec := { name := "fnExactIsTightPlan", fn := fun _ => fun
  | [d1, d2, d3] => { results := [.lit (.bool true)], args := [d1, d2, d3] }
  | _ => none }
def fnExactIsTightPlanRow : OpenClaim := { program := "ytcmmammefghjdaa", sum := "c40cb172253f321dddb630ea1c9d804e3ccf2ba25b407b60b600747e254872e2", func := "loop.example/g03208/laws.FnExactIsTightPlan", spec := "fnExactIsTightPlan", unfollowed := true, recurses := true, apart := false }
def FnExactIsTightPlanSaid : Prop := fnExactIsTightPlanRow.holds Try.pinned (OpenSpec.ofChange fnExactIsTightPlanSpec)

/-- ITS FALSE NEIGHBOUR: 'it returns false'. Refute it at one input. -/
def fnExactIsTightPlanWrong : ChangeSpec := { name := "fnExactIsTightPlan", fn := fun _ => fun
  | [d1, d2, d3] => { results := [.lit (.bool false)], args := [d1, d2, d3] }
  | _ => none }
def FnExactIsTightPlanWrongFalsely : Prop := fnExactIsTightPlanRow.holds Try.pinned (OpenSpec.ofChange fnExactIsTightPlanWrong)

/-- 'laws.FnExactAreaBound': WHATEVER THE INPUT: true; the input reads as it did. -/
def fnExactAreaBoundSpec : ChangeSpec := { name := "fnExactAreaBound", fn := fun _ => fun
  | [d1, d2, d3] => { results := [.lit (.bool true)], args := [d1, d2, d3] }
  | _ => none }
def fnExactAreaBoundRow : OpenClaim := { program := "ytcmmammefghjdaa", sum := "c40cb172253f321dddb630ea1c9d804e3ccf2ba25b407b60b600747e254872e2", func := "loop.example/g03208/laws.FnExactAreaBound", spec := "fnExactAreaBound", unfollowed := true, recurses := true, apart := false }
def FnExactAreaBoundSaid : Prop := fnExactAreaBoundRow.holds Try.pinned (OpenSpec.ofChange fnExactAreaBoundSpec)

/-- ITS FALSE NEIGHBOUR: 'it returns false'. Refute it at one input. -/
def fnExactAreaBoundWrong : ChangeSpec := { name := "fnExactAreaBound", fn := fun _ => fun
  | [d1, d2, d3] => { results := [.lit (.bool false)], args := [d1, d2, d3] }
  | _ => none }
def FnExactAreaBoundWrongFalsely : Prop := fnExactAreaBoundRow.holds Try.pinned (OpenSpec.ofChange fnExactAreaBoundWrong)

/-- 'laws.FnExactStripBound': WHATEVER THE INPUT: true; the input reads as it did. -/
def fnExactStripBoundSpec : ChangeSpec := { name := "fnExactStripBound", fn := fun _ => fun
  | [d1, d2] => { results := [.lit (.bool true)], args := [d1, d2] }
  | _ => none }
def fnExactStripBoundRow : OpenClaim := { program := "ytcmmammefghjdaa", sum := "c40cb172253f321dddb630ea1c9d804e3ccf2ba25b407b60b600747e254872e2", func := "loop.example/g03208/laws.FnExactStripBound", spec := "fnExactStripBound", unfollowed := true, recurses := true, apart := false }
def FnExactStripBoundSaid : Prop := fnExactStripBoundRow.holds Try.pinned (OpenSpec.ofChange fnExactStripBoundSpec)

/-- ITS FALSE NEIGHBOUR: 'it returns false'. Refute it at one input. -/
def fnExactStripBoundWrong : ChangeSpec := { name := "fnExactStripBound", fn := fun _ => fun
  | [d1, d2] => { results := [.lit (.bool false)], args := [d1, d2] }
  | _ => none }
def FnExactStripBoundWrongFalsely : Prop := fnExactStripBoundRow.holds Try.pinned (OpenSpec.ofChange fnExactStripBoundWrong)

/-- 'laws.FnExactFirstFit': WHATEVER THE INPUT: true; the input reads as it did. -/
def fnExactFirstFitSpec : ChangeSpec := { name := "fnExactFirstFit", fn := fun _ => fun
  | [d1, d2] => { results := [.lit (.bool true)], args := [d1, d2] }
  | _ => none }
def fnExactFirstFitRow : OpenClaim := { program := "ytcmmammefghjdaa", sum := "c40cb172253f321dddb630ea1c9d804e3ccf2ba25b407b60b600747e254872e2", func := "loop.example/g03208/laws.FnExactFirstFit", spec := "fnExactFirstFit", unfollowed := true, recurses := true, apart := false }
def FnExactFirstFitSaid : Prop := fnExactFirstFitRow.holds Try.pinned (OpenSpec.ofChange fnExactFirstFitSpec)

/-- ITS FALSE NEIGHBOUR: 'it returns false'. Refute it at one input. -/
def fnExactFirstFitWrong : ChangeSpec := { name := "fnExactFirstFit", fn := fun _ => fun
  | [d1, d2] => { results := [.lit (.bool false)], args := [d1, d2] }
  | _ => none }
def FnExactFirstFitWrongFalsely : Prop := fnExactFirstFitRow.holds Try.pinned (OpenSpec.ofChange fnExactFirstFitWrong)

/-- 'laws.FnExactLeftOn': WHATEVER THE INPUT: true; the input reads as it did. -/
def fnExactLeftOnSpec : ChangeSpec := { name := "fnExactLeftOn", fn := fun _ => fun
  | [d1, d2, d3] => { results := [.lit (.bool true)], args := [d1, d2, d3] }
  | _ => none }
def fnExactLeftOnRow : OpenClaim := { program := "ytcmmammefghjdaa", sum := "c40cb172253f321dddb630ea1c9d804e3ccf2ba25b407b60b600747e254872e2", func := "loop.example/g03208/laws.FnExactLeftOn", spec := "fnExactLeftOn", unfollowed := true, recurses := true, apart := false }
def FnExactLeftOnSaid : Prop := fnExactLeftOnRow.holds Try.pinned (OpenSpec.ofChange fnExactLeftOnSpec)

/-- ITS FALSE NEIGHBOUR: 'it returns false'. Refute it at one input. -/
def fnExactLeftOnWrong : ChangeSpec := { name := "fnExactLeftOn", fn := fun _ => fun
  | [d1, d2, d3] => { results := [.lit (.bool false)], args := [d1, d2, d3] }
  | _ => none }
def FnExactLeftOnWrongFalsely : Prop := fnExactLeftOnRow.holds Try.pinned (OpenSpec.ofChange fnExactLeftOnWrong)

/-- 'laws.FnExactDoOverlap': WHATEVER THE INPUT: true; the input reads as it did. -/
def fnExactDoOverlapSpec : ChangeSpec := { name := "fnExactDoOverlap", fn := fun _ => fun
  | [d1, d2] => { results := [.lit (.bool true)], args := [d1, d2] }
  | _ => none }
def fnExactDoOverlapRow : OpenClaim := { program := "ytcmmammefghjdaa", sum := "c40cb172253f321dddb630ea1c9d804e3ccf2ba25b407b60b600747e254872e2", func := "loop.example/g03208/laws.FnExactDoOverlap", spec := "fnExactDoOverlap", apart := false }
def FnExactDoOverlapSaid : Prop := fnExactDoOverlapRow.holds Try.pinned (OpenSpec.ofChange fnExactDoOverlapSpec)

/-- ITS FALSE NEIGHBOUR: 'it returns false'. Refute it at one input. -/
def fnExactDoOverlapWrong : ChangeSpec := { name := "fnExactDoOverlap", fn := fun _ => fun
  | [d1, d2] => { results := [.lit (.bool false)], args := [d1, d2] }
  | _ => none }
def FnExactDoOverlapWrongFalsely : Prop := fnExactDoOverlapRow.holds Try.pinned (OpenSpec.ofChange fnExactDoOverlapWrong)

/-- 'laws.FnExactCountCutsOf': WHATEVER THE INPUT: true; the input reads as it did. -/
def fnExactCountCutsOfSpec : ChangeSpec := { name := "fnExactCountCutsOf", fn := fun _ => fun
  | [d] => { results := [.lit (.bool true)], args := [d] }
  | _ => none }
def fnExactCountCutsOfRow : OpenClaim := { program := "ytcmmammefghjdaa", sum := "c40cb172253f321dddb630ea1c9d804e3ccf2ba25b407b60b600747e254872e2", func := "loop.example/g03208/laws.FnExactCountCutsOf", spec := "fnExactCountCutsOf", inPlace := ["internal/bytealg.CountString", "internal/bytealg.IndexByteString", "internal/bytealg.IndexString"], named := ["internal/bytealg.MaxLen"], apart := false }
def FnExactCountCutsOfSaid : Prop := fnExactCountCutsOfRow.holds Try.pinned (OpenSpec.ofChange fnExactCountCutsOfSpec)

/-- ITS FALSE NEIGHBOUR: 'it returns false'. Refute it at one input. -/
def fnExactCountCutsOfWrong : ChangeSpec := { name := "fnExactCountCutsOf", fn := fun _ => fun
  | [d] => { results := [.lit (.bool false)], args := [d] }
  | _ => none }
def FnExactCountCutsOfWrongFalsely : Prop := fnExactCountCutsOfRow.holds Try.pinned (OpenSpec.ofChange fnExactCountCutsOfWrong)

/-- 'laws.FnExactBestBars': WHATEVER THE INPUT: true; the input reads as it did. -/
def fnExactBestBarsSpec : ChangeSpec := { name := "fnExactBestBars", fn := fun _ => fun
  | [d1, d2] => { results := [.lit (.bool true)], args := [d1, d2] }
  | _ => none }
def fnExactBestBarsRow : OpenClaim := { program := "ytcmmammefghjdaa", sum := "c40cb172253f321dddb630ea1c9d804e3ccf2ba25b407b60b600747e254872e2", func := "loop.example/g03208/laws.FnExactBestBars", spec := "fnExactBestBars", unfollowed := true, recurses := true, apart := false }
def FnExactBestBarsSaid : Prop := fnExactBestBarsRow.holds Try.pinned (OpenSpec.ofChange fnExactBestBarsSpec)

/-- ITS FALSE NEIGHBOUR: 'it returns false'. Refute it at one input. -/
def fnExactBestBarsWrong : ChangeSpec := { name := "fnExactBestBars", fn := fun _ => fun
  | [d1, d2] => { results := [.lit (.bool false)], args := [d1, d2] }
  | _ => none }
def FnExactBestBarsWrongFalsely : Prop := fnExactBestBarsRow.holds Try.pinned (OpenSpec.ofChange fnExactBestBarsWrong)

/-- 'laws.FnExactBestValue': WHATEVER THE INPUT: true; the input reads as it did. -/
def fnExactBestValueSpec : ChangeSpec := { name := "fnExactBestValue", fn := fun _ => fun
  | [d1, d2, d3] => { results := [.lit (.bool true)], args := [d1, d2, d3] }
  | _ => none }
def fnExactBestValueRow : OpenClaim := { program := "ytcmmammefghjdaa", sum := "c40cb172253f321dddb630ea1c9d804e3ccf2ba25b407b60b600747e254872e2", func := "loop.example/g03208/laws.FnExactBestValue", spec := "fnExactBestValue", unfollowed := true, recurses := true, apart := false }
def FnExactBestValueSaid : Prop := fnExactBestValueRow.holds Try.pinned (OpenSpec.ofChange fnExactBestValueSpec)

/-- ITS FALSE NEIGHBOUR: 'it returns false'. Refute it at one input. -/
def fnExactBestValueWrong : ChangeSpec := { name := "fnExactBestValue", fn := fun _ => fun
  | [d1, d2, d3] => { results := [.lit (.bool false)], args := [d1, d2, d3] }
  | _ => none }
def FnExactBestValueWrongFalsely : Prop := fnExactBestValueRow.holds Try.pinned (OpenSpec.ofChange fnExactBestValueWrong)

/-- 'laws.FnExactTurnedPieces': WHATEVER THE INPUT: true; the input reads as it did. -/
def fnExactTurnedPiecesSpec : ChangeSpec := { name := "fnExactTurnedPieces", fn := fun _ => fun
  | [d1, d2] => { results := [.lit (.bool true)], args := [d1, d2] }
  | _ => none }
def fnExactTurnedPiecesRow : OpenClaim := { program := "ytcmmammefghjdaa", sum := "c40cb172253f321dddb630ea1c9d804e3ccf2ba25b407b60b600747e254872e2", func := "loop.example/g03208/laws.FnExactTurnedPieces", spec := "fnExactTurnedPieces", unfollowed := true, recurses := true, apart := false }
def FnExactTurnedPiecesSaid : Prop := fnExactTurnedPiecesRow.holds Try.pinned (OpenSpec.ofChange fnExactTurnedPiecesSpec)

/-- ITS FALSE NEIGHBOUR: 'it returns false'. Refute it at one input. -/
def fnExactTurnedPiecesWrong : ChangeSpec := { name := "fnExactTurnedPieces", fn := fun _ => fun
  | [d1, d2] => { results := [.lit (.bool false)], args := [d1, d2] }
  | _ => none }
def FnExactTurnedPiecesWrongFalsely : Prop := fnExactTurnedPiecesRow.holds Try.pinned (OpenSpec.ofChange fnExactTurnedPiecesWrong)

/- THE SECOND FORM. 'bulk': how many values and letters a reading holds, each counted each time it is reached (what is shared counts as often as it is met; a slice's spare places count too). A statement '..UptoSaid' is the law's where the arguments, and the package variables that the reading takes, are together of bulk at most 1048576: NARROWER than '..Said'. Prove '..Said' where nothing that the law and all that it calls make is longer than what came in: it says more and counts as full. Else prove '..UptoSaid'. A law counts once. -/
mutual
def uptoBulk {H : Type} : DataW H → Nat
  | .lit (.string bytes) => bytes.length + 1
  | .lit _ => 1
  | .nil => 1
  | .ptr d => uptoBulk d + 1
  | .slice elems spare => uptoBulkAll elems + uptoBulkAll spare + 1
  | .agg parts => uptoBulkAll parts + 1
  | .iface _ d => uptoBulk d + 1
  | .map entries => uptoBulkEntries entries + 1
  | .held _ => 1
def uptoBulkAll {H : Type} : List (DataW H) → Nat
  | [] => 0
  | d :: r => uptoBulk d + uptoBulkAll r
def uptoBulkEntries {H : Type} : List (Lit × DataW H) → Nat
  | [] => 0
  | x :: r => uptoBulkEntry x + uptoBulkEntries r
def uptoBulkEntry {H : Type} : Lit × DataW H → Nat
  | (.string bytes, d) => bytes.length + uptoBulk d + 1
  | (_, d) => uptoBulk d + 1
 end
def uptoSmall : (H : Type) → List (DataW H) → Bool := fun _ ds => decide (uptoBulkAll ds ≤ 1048576)
def OpenSpec.upto (s : _root_.Go.ChangeSpec) : _root_.Go.OpenSpec := { _root_.Go.OpenSpec.ofChange s with cond := some uptoSmall }

/-- 'laws.FnExactBarPlanOk', WHERE WHAT IT READS IS OF BULK AT MOST 1048576: true; the input reads as it did. -/
def fnExactBarPlanOkUptoRow : OpenClaim := { program := "ytcmmammefghjdaa", sum := "c40cb172253f321dddb630ea1c9d804e3ccf2ba25b407b60b600747e254872e2", func := "loop.example/g03208/laws.FnExactBarPlanOk", spec := "fnExactBarPlanOk", unfollowed := true, recurses := true, apart := false, narrowed := true }
def FnExactBarPlanOkUptoSaid : Prop := fnExactBarPlanOkUptoRow.holds Try.pinned (OpenSpec.upto fnExactBarPlanOkSpec)

/-- 'laws.FnExactWasteOf', WHERE WHAT IT READS IS OF BULK AT MOST 1048576: true; the input reads as it did. -/
def fnExactWasteOfUptoRow : OpenClaim := { program := "ytcmmammefghjdaa", sum := "c40cb172253f321dddb630ea1c9d804e3ccf2ba25b407b60b600747e254872e2", func := "loop.example/g03208/laws.FnExactWasteOf", spec := "fnExactWasteOf", unfollowed := true, recurses := true, apart := false, narrowed := true }
def FnExactWasteOfUptoSaid : Prop := fnExactWasteOfUptoRow.holds Try.pinned (OpenSpec.upto fnExactWasteOfSpec)

/-- 'laws.FnExactIsTightPlan', WHERE WHAT IT READS IS OF BULK AT MOST 1048576: true; the input reads as it did. -/
def fnExactIsTightPlanUptoRow : OpenClaim := { program := "ytcmmammefghjdaa", sum := "c40cb172253f321dddb630ea1c9d804e3ccf2ba25b407b60b600747e254872e2", func := "loop.example/g03208/laws.FnExactIsTightPlan", spec := "fnExactIsTightPlan", unfollowed := true, recurses := true, apart := false, narrowed := true }
def FnExactIsTightPlanUptoSaid : Prop := fnExactIsTightPlanUptoRow.holds Try.pinned (OpenSpec.upto fnExactIsTightPlanSpec)

/-- 'laws.FnExactAreaBound', WHERE WHAT IT READS IS OF BULK AT MOST 1048576: true; the input reads as it did. -/
def fnExactAreaBoundUptoRow : OpenClaim := { program := "ytcmmammefghjdaa", sum := "c40cb172253f321dddb630ea1c9d804e3ccf2ba25b407b60b600747e254872e2", func := "loop.example/g03208/laws.FnExactAreaBound", spec := "fnExactAreaBound", unfollowed := true, recurses := true, apart := false, narrowed := true }
def FnExactAreaBoundUptoSaid : Prop := fnExactAreaBoundUptoRow.holds Try.pinned (OpenSpec.upto fnExactAreaBoundSpec)

/-- 'laws.FnExactStripBound', WHERE WHAT IT READS IS OF BULK AT MOST 1048576: true; the input reads as it did. -/
def fnExactStripBoundUptoRow : OpenClaim := { program := "ytcmmammefghjdaa", sum := "c40cb172253f321dddb630ea1c9d804e3ccf2ba25b407b60b600747e254872e2", func := "loop.example/g03208/laws.FnExactStripBound", spec := "fnExactStripBound", unfollowed := true, recurses := true, apart := false, narrowed := true }
def FnExactStripBoundUptoSaid : Prop := fnExactStripBoundUptoRow.holds Try.pinned (OpenSpec.upto fnExactStripBoundSpec)

/-- 'laws.FnExactFirstFit', WHERE WHAT IT READS IS OF BULK AT MOST 1048576: true; the input reads as it did. -/
def fnExactFirstFitUptoRow : OpenClaim := { program := "ytcmmammefghjdaa", sum := "c40cb172253f321dddb630ea1c9d804e3ccf2ba25b407b60b600747e254872e2", func := "loop.example/g03208/laws.FnExactFirstFit", spec := "fnExactFirstFit", unfollowed := true, recurses := true, apart := false, narrowed := true }
def FnExactFirstFitUptoSaid : Prop := fnExactFirstFitUptoRow.holds Try.pinned (OpenSpec.upto fnExactFirstFitSpec)

/-- 'laws.FnExactLeftOn', WHERE WHAT IT READS IS OF BULK AT MOST 1048576: true; the input reads as it did. -/
def fnExactLeftOnUptoRow : OpenClaim := { program := "ytcmmammefghjdaa", sum := "c40cb172253f321dddb630ea1c9d804e3ccf2ba25b407b60b600747e254872e2", func := "loop.example/g03208/laws.FnExactLeftOn", spec := "fnExactLeftOn", unfollowed := true, recurses := true, apart := false, narrowed := true }
def FnExactLeftOnUptoSaid : Prop := fnExactLeftOnUptoRow.holds Try.pinned (OpenSpec.upto fnExactLeftOnSpec)

/-- 'laws.FnExactDoOverlap', WHERE WHAT IT READS IS OF BULK AT MOST 1048576: true; the input reads as it did. -/
def fnExactDoOverlapUptoRow : OpenClaim := { program := "ytcmmammefghjdaa", sum := "c40cb172253f321dddb630ea1c9d804e3ccf2ba25b407b60b600747e254872e2", func := "loop.example/g03208/laws.FnExactDoOverlap", spec := "fnExactDoOverlap", apart := false, narrowed := true }
def FnExactDoOverlapUptoSaid : Prop := fnExactDoOverlapUptoRow.holds Try.pinned (OpenSpec.upto fnExactDoOverlapSpec)

/-- 'laws.FnExactCountCutsOf', WHERE WHAT IT READS IS OF BULK AT MOST 1048576: true; the input reads as it did. -/
def fnExactCountCutsOfUptoRow : OpenClaim := { program := "ytcmmammefghjdaa", sum := "c40cb172253f321dddb630ea1c9d804e3ccf2ba25b407b60b600747e254872e2", func := "loop.example/g03208/laws.FnExactCountCutsOf", spec := "fnExactCountCutsOf", inPlace := ["internal/bytealg.CountString", "internal/bytealg.IndexByteString", "internal/bytealg.IndexString"], named := ["internal/bytealg.MaxLen"], apart := false, narrowed := true }
def FnExactCountCutsOfUptoSaid : Prop := fnExactCountCutsOfUptoRow.holds Try.pinned (OpenSpec.upto fnExactCountCutsOfSpec)

/-- 'laws.FnExactBestBars', WHERE WHAT IT READS IS OF BULK AT MOST 1048576: true; the input reads as it did. -/
def fnExactBestBarsUptoRow : OpenClaim := { program := "ytcmmammefghjdaa", sum := "c40cb172253f321dddb630ea1c9d804e3ccf2ba25b407b60b600747e254872e2", func := "loop.example/g03208/laws.FnExactBestBars", spec := "fnExactBestBars", unfollowed := true, recurses := true, apart := false, narrowed := true }
def FnExactBestBarsUptoSaid : Prop := fnExactBestBarsUptoRow.holds Try.pinned (OpenSpec.upto fnExactBestBarsSpec)

/-- 'laws.FnExactBestValue', WHERE WHAT IT READS IS OF BULK AT MOST 1048576: true; the input reads as it did. -/
def fnExactBestValueUptoRow : OpenClaim := { program := "ytcmmammefghjdaa", sum := "c40cb172253f321dddb630ea1c9d804e3ccf2ba25b407b60b600747e254872e2", func := "loop.example/g03208/laws.FnExactBestValue", spec := "fnExactBestValue", unfollowed := true, recurses := true, apart := false, narrowed := true }
def FnExactBestValueUptoSaid : Prop := fnExactBestValueUptoRow.holds Try.pinned (OpenSpec.upto fnExactBestValueSpec)

/-- 'laws.FnExactTurnedPieces', WHERE WHAT IT READS IS OF BULK AT MOST 1048576: true; the input reads as it did. -/
def fnExactTurnedPiecesUptoRow : OpenClaim := { program := "ytcmmammefghjdaa", sum := "c40cb172253f321dddb630ea1c9d804e3ccf2ba25b407b60b600747e254872e2", func := "loop.example/g03208/laws.FnExactTurnedPieces", spec := "fnExactTurnedPieces", unfollowed := true, recurses := true, apart := false, narrowed := true }
def FnExactTurnedPiecesUptoSaid : Prop := fnExactTurnedPiecesUptoRow.holds Try.pinned (OpenSpec.upto fnExactTurnedPiecesSpec)

end Rows
end Go.Proofs.Ytcmmammefghjdaa
