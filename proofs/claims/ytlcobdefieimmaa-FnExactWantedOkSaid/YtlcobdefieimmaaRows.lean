/-
  No cell of these rows narrows 'for every input' (looked for: loops, veiled, ifaces, maps, wideKeys, modest, calm, conditions, laid).
  DERIVED. THE GIVEN ROWS OF THIS SEAT. 12 by the template 'for every input the law returns true; each argument reads behind the call as it read before'; 0 by the template 'total and deterministic' (their statements: YtlcobdefieimmaaTotals.lean).
  GIVEN WITH THE SEED: the statements are not yours to turn. If you find one false, say at which input.
  Laid BY PROGRAM, IN A SANDBOX (cutbox-rows.mjs): the forced cells as the released guide's own fill.sh prints them over the translation 3127d103528480c5… (all of the seat's roots in one cut). By AI agents, Wed Nov 11 2026. No macro, syntax, notation, axiom, sorry.
-/
import Derived.Test.YtlcobdefieimmaaChecked
import GoSem.Claim
import GoSem.ClaimJoined
import GoSem.ClaimMapViews
import Derived.JoinedTies
import Derived.KernelRfl
namespace Go.Proofs.Ytlcobdefieimmaa
/- THE CELL 'sum', in the pinned program and in every row, IS THE sha256 OF THE DUMP (.gsa) THAT YtlcobdefieimmaaProg.lean LOADS. Nothing in Lean hashes anything: it is a label: what it is worth is what the hold of that sum in a sandbox is worth. -/
noncomputable def Try.pinned : Pinned := { name := "ytlcobdefieimmaa", sum := "3127d103528480c591c50e856c2c8e8356fb823be6f072e9de5553ba37409984", checked := Try.checked }
namespace Rows
def none {H : Type} : Left H := { results := [], args := [] }

/-- 'laws.FnExactHalvingsOf': WHATEVER THE INPUT: true; the input reads as it did. -/
def fnExactHalvingsOfSpec : ChangeSpec := { name := "fnExactHalvingsOf", fn := fun _ => fun
  | [d] => { results := [.lit (.bool true)], args := [d] }
  | _ => none }
def fnExactHalvingsOfRow : OpenClaim := { program := "ytlcobdefieimmaa", sum := "3127d103528480c591c50e856c2c8e8356fb823be6f072e9de5553ba37409984", func := "loop.example/g03208/laws.FnExactHalvingsOf", spec := "fnExactHalvingsOf", apart := false }
def FnExactHalvingsOfSaid : Prop := fnExactHalvingsOfRow.holds Try.pinned (OpenSpec.ofChange fnExactHalvingsOfSpec)

/-- ITS FALSE NEIGHBOUR: 'it returns false'. Refute it at one input. -/
def fnExactHalvingsOfWrong : ChangeSpec := { name := "fnExactHalvingsOf", fn := fun _ => fun
  | [d] => { results := [.lit (.bool false)], args := [d] }
  | _ => none }
def FnExactHalvingsOfWrongFalsely : Prop := fnExactHalvingsOfRow.holds Try.pinned (OpenSpec.ofChange fnExactHalvingsOfWrong)

/-- 'laws.FnExactCountBars': WHATEVER THE INPUT: true; the input reads as it did. -/
def fnExactCountBarsSpec : ChangeSpec := { name := "fnExactCountBars", fn := fun _ => fun
  | [d] => { results := [.lit (.bool true)], args := [d] }
  | _ => none }
def fnExactCountBarsRow : OpenClaim := { program := "ytlcobdefieimmaa", sum := "3127d103528480c591c50e856c2c8e8356fb823be6f072e9de5553ba37409984", func := "loop.example/g03208/laws.FnExactCountBars", spec := "fnExactCountBars", apart := false }
def FnExactCountBarsSaid : Prop := fnExactCountBarsRow.holds Try.pinned (OpenSpec.ofChange fnExactCountBarsSpec)

/-- ITS FALSE NEIGHBOUR: 'it returns false'. Refute it at one input. -/
def fnExactCountBarsWrong : ChangeSpec := { name := "fnExactCountBars", fn := fun _ => fun
  | [d] => { results := [.lit (.bool false)], args := [d] }
  | _ => none }
def FnExactCountBarsWrongFalsely : Prop := fnExactCountBarsRow.holds Try.pinned (OpenSpec.ofChange fnExactCountBarsWrong)

/-- 'laws.FnExactBarsOk': WHATEVER THE INPUT: true; the input reads as it did. -/
def fnExactBarsOkSpec : ChangeSpec := { name := "fnExactBarsOk", fn := fun _ => fun
  | [d1, d2] => { results := [.lit (.bool true)], args := [d1, d2] }
  | _ => none }
def fnExactBarsOkRow : OpenClaim := { program := "ytlcobdefieimmaa", sum := "3127d103528480c591c50e856c2c8e8356fb823be6f072e9de5553ba37409984", func := "loop.example/g03208/laws.FnExactBarsOk", spec := "fnExactBarsOk", unfollowed := true, recurses := true, apart := false }
def FnExactBarsOkSaid : Prop := fnExactBarsOkRow.holds Try.pinned (OpenSpec.ofChange fnExactBarsOkSpec)

/-- ITS FALSE NEIGHBOUR: 'it returns false'. Refute it at one input. -/
def fnExactBarsOkWrong : ChangeSpec := { name := "fnExactBarsOk", fn := fun _ => fun
  | [d1, d2] => { results := [.lit (.bool false)], args := [d1, d2] }
  | _ => none }
def FnExactBarsOkWrongFalsely : Prop := fnExactBarsOkRow.holds Try.pinned (OpenSpec.ofChange fnExactBarsOkWrong)

/-- 'laws.FnExactWantedOk': WHATEVER THE INPUT: true; the input reads as it did. -/
def fnExactWantedOkSpec : ChangeSpec := { name := "fnExactWantedOk", fn := fun _ => fun
  | [d] => { results := [.lit (.bool true)], args := [d] }
  | _ => none }
def fnExactWantedOkRow : OpenClaim := { program := "ytlcobdefieimmaa", sum := "3127d103528480c591c50e856c2c8e8356fb823be6f072e9de5553ba37409984", func := "loop.example/g03208/laws.FnExactWantedOk", spec := "fnExactWantedOk", unfollowed := true, recurses := true, apart := false }
def FnExactWantedOkSaid : Prop := fnExactWantedOkRow.holds Try.pinned (OpenSpec.ofChange fnExactWantedOkSpec)

/-- ITS FALSE NEIGHBOUR: 'it returns false'. Refute it at one input. -/
def fnExactWantedOkWrong : ChangeSpec := { name := "fnExactWantedOk", fn := fun _ => fun
  | [d] => { results := [.lit (.bool false)], args := [d] }
  | _ => none }
def FnExactWantedOkWrongFalsely : Prop := fnExactWantedOkRow.holds Try.pinned (OpenSpec.ofChange fnExactWantedOkWrong)

/-- 'laws.FnExactNestOk': WHATEVER THE INPUT: true; the input reads as it did. -/
def fnExactNestOkSpec : ChangeSpec := { name := "fnExactNestOk", fn := fun _ => fun
  | [d1, d2, d3] => { results := [.lit (.bool true)], args := [d1, d2, d3] }
  | _ => none }
def fnExactNestOkRow : OpenClaim := { program := "ytlcobdefieimmaa", sum := "3127d103528480c591c50e856c2c8e8356fb823be6f072e9de5553ba37409984", func := "loop.example/g03208/laws.FnExactNestOk", spec := "fnExactNestOk", apart := false }
def FnExactNestOkSaid : Prop := fnExactNestOkRow.holds Try.pinned (OpenSpec.ofChange fnExactNestOkSpec)

/-- ITS FALSE NEIGHBOUR: 'it returns false'. Refute it at one input. -/
def fnExactNestOkWrong : ChangeSpec := { name := "fnExactNestOk", fn := fun _ => fun
  | [d1, d2, d3] => { results := [.lit (.bool false)], args := [d1, d2, d3] }
  | _ => none }
def FnExactNestOkWrongFalsely : Prop := fnExactNestOkRow.holds Try.pinned (OpenSpec.ofChange fnExactNestOkWrong)

/-- 'laws.FnExactColorOf': WHATEVER THE INPUT: true; the input reads as it did. -/
def fnExactColorOfSpec : ChangeSpec := { name := "fnExactColorOf", fn := fun _ => fun
  | [d1, d2] => { results := [.lit (.bool true)], args := [d1, d2] }
  | _ => none }
def fnExactColorOfRow : OpenClaim := { program := "ytlcobdefieimmaa", sum := "3127d103528480c591c50e856c2c8e8356fb823be6f072e9de5553ba37409984", func := "loop.example/g03208/laws.FnExactColorOf", spec := "fnExactColorOf", apart := false }
def FnExactColorOfSaid : Prop := fnExactColorOfRow.holds Try.pinned (OpenSpec.ofChange fnExactColorOfSpec)

/-- ITS FALSE NEIGHBOUR: 'it returns false'. Refute it at one input. -/
def fnExactColorOfWrong : ChangeSpec := { name := "fnExactColorOf", fn := fun _ => fun
  | [d1, d2] => { results := [.lit (.bool false)], args := [d1, d2] }
  | _ => none }
def FnExactColorOfWrongFalsely : Prop := fnExactColorOfRow.holds Try.pinned (OpenSpec.ofChange fnExactColorOfWrong)

/-- 'laws.FnExactBarBound': WHATEVER THE INPUT: true; the input reads as it did. -/
def fnExactBarBoundSpec : ChangeSpec := { name := "fnExactBarBound", fn := fun _ => fun
  | [d1, d2] => { results := [.lit (.bool true)], args := [d1, d2] }
  | _ => none }
def fnExactBarBoundRow : OpenClaim := { program := "ytlcobdefieimmaa", sum := "3127d103528480c591c50e856c2c8e8356fb823be6f072e9de5553ba37409984", func := "loop.example/g03208/laws.FnExactBarBound", spec := "fnExactBarBound", unfollowed := true, recurses := true, apart := false }
def FnExactBarBoundSaid : Prop := fnExactBarBoundRow.holds Try.pinned (OpenSpec.ofChange fnExactBarBoundSpec)

/-- ITS FALSE NEIGHBOUR: 'it returns false'. Refute it at one input. -/
def fnExactBarBoundWrong : ChangeSpec := { name := "fnExactBarBound", fn := fun _ => fun
  | [d1, d2] => { results := [.lit (.bool false)], args := [d1, d2] }
  | _ => none }
def FnExactBarBoundWrongFalsely : Prop := fnExactBarBoundRow.holds Try.pinned (OpenSpec.ofChange fnExactBarBoundWrong)

/-- 'laws.FnExactShareLayers': WHATEVER THE INPUT: true; the input reads as it did. -/
def fnExactShareLayersSpec : ChangeSpec := { name := "fnExactShareLayers", fn := fun _ => fun
  | [d1, d2] => { results := [.lit (.bool true)], args := [d1, d2] }
  | _ => none }
def fnExactShareLayersRow : OpenClaim := { program := "ytlcobdefieimmaa", sum := "3127d103528480c591c50e856c2c8e8356fb823be6f072e9de5553ba37409984", func := "loop.example/g03208/laws.FnExactShareLayers", spec := "fnExactShareLayers", unfollowed := true, recurses := true, apart := false }
def FnExactShareLayersSaid : Prop := fnExactShareLayersRow.holds Try.pinned (OpenSpec.ofChange fnExactShareLayersSpec)

/-- ITS FALSE NEIGHBOUR: 'it returns false'. Refute it at one input. -/
def fnExactShareLayersWrong : ChangeSpec := { name := "fnExactShareLayers", fn := fun _ => fun
  | [d1, d2] => { results := [.lit (.bool false)], args := [d1, d2] }
  | _ => none }
def FnExactShareLayersWrongFalsely : Prop := fnExactShareLayersRow.holds Try.pinned (OpenSpec.ofChange fnExactShareLayersWrong)

/-- 'laws.FnExactFreeOf': WHATEVER THE INPUT: true; the input reads as it did. -/
def fnExactFreeOfSpec : ChangeSpec := { name := "fnExactFreeOf", fn := fun _ => fun
  | [d1, d2, d3] => { results := [.lit (.bool true)], args := [d1, d2, d3] }
  | _ => none }
def fnExactFreeOfRow : OpenClaim := { program := "ytlcobdefieimmaa", sum := "3127d103528480c591c50e856c2c8e8356fb823be6f072e9de5553ba37409984", func := "loop.example/g03208/laws.FnExactFreeOf", spec := "fnExactFreeOf", apart := false }
def FnExactFreeOfSaid : Prop := fnExactFreeOfRow.holds Try.pinned (OpenSpec.ofChange fnExactFreeOfSpec)

/-- ITS FALSE NEIGHBOUR: 'it returns false'. Refute it at one input. -/
def fnExactFreeOfWrong : ChangeSpec := { name := "fnExactFreeOf", fn := fun _ => fun
  | [d1, d2, d3] => { results := [.lit (.bool false)], args := [d1, d2, d3] }
  | _ => none }
def FnExactFreeOfWrongFalsely : Prop := fnExactFreeOfRow.holds Try.pinned (OpenSpec.ofChange fnExactFreeOfWrong)

/-- 'laws.FnExactMarkerOk': WHATEVER THE INPUT: true; the input reads as it did. -/
def fnExactMarkerOkSpec : ChangeSpec := { name := "fnExactMarkerOk", fn := fun _ => fun
  | [d1, d2] => { results := [.lit (.bool true)], args := [d1, d2] }
  | _ => none }
def fnExactMarkerOkRow : OpenClaim := { program := "ytlcobdefieimmaa", sum := "3127d103528480c591c50e856c2c8e8356fb823be6f072e9de5553ba37409984", func := "loop.example/g03208/laws.FnExactMarkerOk", spec := "fnExactMarkerOk", unfollowed := true, recurses := true, apart := false }
def FnExactMarkerOkSaid : Prop := fnExactMarkerOkRow.holds Try.pinned (OpenSpec.ofChange fnExactMarkerOkSpec)

/-- ITS FALSE NEIGHBOUR: 'it returns false'. Refute it at one input. -/
def fnExactMarkerOkWrong : ChangeSpec := { name := "fnExactMarkerOk", fn := fun _ => fun
  | [d1, d2] => { results := [.lit (.bool false)], args := [d1, d2] }
  | _ => none }
def FnExactMarkerOkWrongFalsely : Prop := fnExactMarkerOkRow.holds Try.pinned (OpenSpec.ofChange fnExactMarkerOkWrong)

/-- 'laws.FnExactWaresOk': WHATEVER THE INPUT: true; the input reads as it did. -/
def fnExactWaresOkSpec : ChangeSpec := { name := "fnExactWaresOk", fn := fun _ => fun
  | [d] => { results := [.lit (.bool true)], args := [d] }
  | _ => none }
def fnExactWaresOkRow : OpenClaim := { program := "ytlcobdefieimmaa", sum := "3127d103528480c591c50e856c2c8e8356fb823be6f072e9de5553ba37409984", func := "loop.example/g03208/laws.FnExactWaresOk", spec := "fnExactWaresOk", unfollowed := true, recurses := true, apart := false }
def FnExactWaresOkSaid : Prop := fnExactWaresOkRow.holds Try.pinned (OpenSpec.ofChange fnExactWaresOkSpec)

/-- ITS FALSE NEIGHBOUR: 'it returns false'. Refute it at one input. -/
def fnExactWaresOkWrong : ChangeSpec := { name := "fnExactWaresOk", fn := fun _ => fun
  | [d] => { results := [.lit (.bool false)], args := [d] }
  | _ => none }
def FnExactWaresOkWrongFalsely : Prop := fnExactWaresOkRow.holds Try.pinned (OpenSpec.ofChange fnExactWaresOkWrong)

/-- 'laws.FnExactPiecesFit': WHATEVER THE INPUT: true; the input reads as it did. -/
def fnExactPiecesFitSpec : ChangeSpec := { name := "fnExactPiecesFit", fn := fun _ => fun
  | [d1, d2] => { results := [.lit (.bool true)], args := [d1, d2] }
  | _ => none }
def fnExactPiecesFitRow : OpenClaim := { program := "ytlcobdefieimmaa", sum := "3127d103528480c591c50e856c2c8e8356fb823be6f072e9de5553ba37409984", func := "loop.example/g03208/laws.FnExactPiecesFit", spec := "fnExactPiecesFit", unfollowed := true, recurses := true, apart := false }
def FnExactPiecesFitSaid : Prop := fnExactPiecesFitRow.holds Try.pinned (OpenSpec.ofChange fnExactPiecesFitSpec)

/-- ITS FALSE NEIGHBOUR: 'it returns false'. Refute it at one input. -/
def fnExactPiecesFitWrong : ChangeSpec := { name := "fnExactPiecesFit", fn := fun _ => fun
  | [d1, d2] => { results := [.lit (.bool false)], args := [d1, d2] }
  | _ => none }
def FnExactPiecesFitWrongFalsely : Prop := fnExactPiecesFitRow.holds Try.pinned (OpenSpec.ofChange fnExactPiecesFitWrong)

/- THE SECOND FORM. 'bulk': how many values and letters a reading holds, each counted each time it is reached (what is shared counts as often as it is met; a slice's spare places count too). A statement '..UptoSaid' is the law's where the arguments, and the package variables that the reading takes, are together of bulk at most 1048576: NARROWER than '..Said'. Prove '..Said' where nothing that the law and all that it calls make is longer than what came in: it says more and counts as full. Else prove '..UptoSaid'. A law counts once. -/
mutual
def uptoBulk {H : Type} : DataW H → Nat
  | .lit (.string bytes) => bytes.length + 1
  | .lit _ => 1
  | .nil => 1
  | .ptr d => uptoBulk d + 1
  | .slice elems spare => uptoBulkAll elems + uptoBulkAll spare + 1
  | .agg parts => uptoBulkAll parts + 1
  | .iface _ d => uptoBulk d + 1
  | .map entries => uptoBulkEntries entries + 1
  | .held _ => 1
def uptoBulkAll {H : Type} : List (DataW H) → Nat
  | [] => 0
  | d :: r => uptoBulk d + uptoBulkAll r
def uptoBulkEntries {H : Type} : List (Lit × DataW H) → Nat
  | [] => 0
  | x :: r => uptoBulkEntry x + uptoBulkEntries r
def uptoBulkEntry {H : Type} : Lit × DataW H → Nat
  | (.string bytes, d) => bytes.length + uptoBulk d + 1
  | (_, d) => uptoBulk d + 1
 end
def uptoSmall : (H : Type) → List (DataW H) → Bool := fun _ ds => decide (uptoBulkAll ds ≤ 1048576)
def OpenSpec.upto (s : _root_.Go.ChangeSpec) : _root_.Go.OpenSpec := { _root_.Go.OpenSpec.ofChange s with cond := some uptoSmall }

/-- 'laws.FnExactHalvingsOf', WHERE WHAT IT READS IS OF BULK AT MOST 1048576: true; the input reads as it did. -/
def fnExactHalvingsOfUptoRow : OpenClaim := { program := "ytlcobdefieimmaa", sum := "3127d103528480c591c50e856c2c8e8356fb823be6f072e9de5553ba37409984", func := "loop.example/g03208/laws.FnExactHalvingsOf", spec := "fnExactHalvingsOf", apart := false, narrowed := true }
def FnExactHalvingsOfUptoSaid : Prop := fnExactHalvingsOfUptoRow.holds Try.pinned (OpenSpec.upto fnExactHalvingsOfSpec)

/-- 'laws.FnExactCountBars', WHERE WHAT IT READS IS OF BULK AT MOST 1048576: true; the input reads as it did. -/
def fnExactCountBarsUptoRow : OpenClaim := { program := "ytlcobdefieimmaa", sum := "3127d103528480c591c50e856c2c8e8356fb823be6f072e9de5553ba37409984", func := "loop.example/g03208/laws.FnExactCountBars", spec := "fnExactCountBars", apart := false, narrowed := true }
def FnExactCountBarsUptoSaid : Prop := fnExactCountBarsUptoRow.holds Try.pinned (OpenSpec.upto fnExactCountBarsSpec)

/-- 'laws.FnExactBarsOk', WHERE WHAT IT READS IS OF BULK AT MOST 1048576: true; the input reads as it did. -/
def fnExactBarsOkUptoRow : OpenClaim := { program := "ytlcobdefieimmaa", sum := "3127d103528480c591c50e856c2c8e8356fb823be6f072e9de5553ba37409984", func := "loop.example/g03208/laws.FnExactBarsOk", spec := "fnExactBarsOk", unfollowed := true, recurses := true, apart := false, narrowed := true }
def FnExactBarsOkUptoSaid : Prop := fnExactBarsOkUptoRow.holds Try.pinned (OpenSpec.upto fnExactBarsOkSpec)

/-- 'laws.FnExactWantedOk', WHERE WHAT IT READS IS OF BULK AT MOST 1048576: true; the input reads as it did. -/
def fnExactWantedOkUptoRow : OpenClaim := { program := "ytlcobdefieimmaa", sum := "3127d103528480c591c50e856c2c8e8356fb823be6f072e9de5553ba37409984", func := "loop.example/g03208/laws.FnExactWantedOk", spec := "fnExactWantedOk", unfollowed := true, recurses := true, apart := false, narrowed := true }
def FnExactWantedOkUptoSaid : Prop := fnExactWantedOkUptoRow.holds Try.pinned (OpenSpec.upto fnExactWantedOkSpec)

/-- 'laws.FnExactNestOk', WHERE WHAT IT READS IS OF BULK AT MOST 1048576: true; the input reads as it did. -/
def fnExactNestOkUptoRow : OpenClaim := { program := "ytlcobdefieimmaa", sum := "3127d103528480c591c50e856c2c8e8356fb823be6f072e9de5553ba37409984", func := "loop.example/g03208/laws.FnExactNestOk", spec := "fnExactNestOk", apart := false, narrowed := true }
def FnExactNestOkUptoSaid : Prop := fnExactNestOkUptoRow.holds Try.pinned (OpenSpec.upto fnExactNestOkSpec)

/-- 'laws.FnExactColorOf', WHERE WHAT IT READS IS OF BULK AT MOST 1048576: true; the input reads as it did. -/
def fnExactColorOfUptoRow : OpenClaim := { program := "ytlcobdefieimmaa", sum := "3127d103528480c591c50e856c2c8e8356fb823be6f072e9de5553ba37409984", func := "loop.example/g03208/laws.FnExactColorOf", spec := "fnExactColorOf", apart := false, narrowed := true }
def FnExactColorOfUptoSaid : Prop := fnExactColorOfUptoRow.holds Try.pinned (OpenSpec.upto fnExactColorOfSpec)

/-- 'laws.FnExactBarBound', WHERE WHAT IT READS IS OF BULK AT MOST 1048576: true; the input reads as it did. -/
def fnExactBarBoundUptoRow : OpenClaim := { program := "ytlcobdefieimmaa", sum := "3127d103528480c591c50e856c2c8e8356fb823be6f072e9de5553ba37409984", func := "loop.example/g03208/laws.FnExactBarBound", spec := "fnExactBarBound", unfollowed := true, recurses := true, apart := false, narrowed := true }
def FnExactBarBoundUptoSaid : Prop := fnExactBarBoundUptoRow.holds Try.pinned (OpenSpec.upto fnExactBarBoundSpec)

/-- 'laws.FnExactShareLayers', WHERE WHAT IT READS IS OF BULK AT MOST 1048576: true; the input reads as it did. -/
def fnExactShareLayersUptoRow : OpenClaim := { program := "ytlcobdefieimmaa", sum := "3127d103528480c591c50e856c2c8e8356fb823be6f072e9de5553ba37409984", func := "loop.example/g03208/laws.FnExactShareLayers", spec := "fnExactShareLayers", unfollowed := true, recurses := true, apart := false, narrowed := true }
def FnExactShareLayersUptoSaid : Prop := fnExactShareLayersUptoRow.holds Try.pinned (OpenSpec.upto fnExactShareLayersSpec)

/-- 'laws.FnExactFreeOf', WHERE WHAT IT READS IS OF BULK AT MOST 1048576: true; the input reads as it did. -/
def fnExactFreeOfUptoRow : OpenClaim := { program := "ytlcobdefieimmaa", sum := "3127d103528480c591c50e856c2c8e8356fb823be6f072e9de5553ba37409984", func := "loop.example/g03208/laws.FnExactFreeOf", spec := "fnExactFreeOf", apart := false, narrowed := true }
def FnExactFreeOfUptoSaid : Prop := fnExactFreeOfUptoRow.holds Try.pinned (OpenSpec.upto fnExactFreeOfSpec)

/-- 'laws.FnExactMarkerOk', WHERE WHAT IT READS IS OF BULK AT MOST 1048576: true; the input reads as it did. -/
def fnExactMarkerOkUptoRow : OpenClaim := { program := "ytlcobdefieimmaa", sum := "3127d103528480c591c50e856c2c8e8356fb823be6f072e9de5553ba37409984", func := "loop.example/g03208/laws.FnExactMarkerOk", spec := "fnExactMarkerOk", unfollowed := true, recurses := true, apart := false, narrowed := true }
def FnExactMarkerOkUptoSaid : Prop := fnExactMarkerOkUptoRow.holds Try.pinned (OpenSpec.upto fnExactMarkerOkSpec)

/-- 'laws.FnExactWaresOk', WHERE WHAT IT READS IS OF BULK AT MOST 1048576: true; the input reads as it did. -/
def fnExactWaresOkUptoRow : OpenClaim := { program := "ytlcobdefieimmaa", sum := "3127d103528480c591c50e856c2c8e8356fb823be6f072e9de5553ba37409984", func := "loop.example/g03208/laws.FnExactWaresOk", spec := "fnExactWaresOk", unfollowed := true, recurses := true, apart := false, narrowed := true }
def FnExactWaresOkUptoSaid : Prop := fnExactWaresOkUptoRow.holds Try.pinned (OpenSpec.upto fnExactWaresOkSpec)

/-- 'laws.FnExactPiecesFit', WHERE WHAT IT READS IS OF BULK AT MOST 1048576: true; the input reads as it did. -/
def fnExactPiecesFitUptoRow : OpenClaim := { program := "ytlcobdefieimmaa", sum := "3127d103528480c591c50e856c2c8e8356fb823be6f072e9de5553ba37409984", func := "loop.example/g03208/laws.FnExactPiecesFit", spec := "fnExactPiecesFit", unfollowed := true, recurses := true, apart := false, narrowed := true }
def FnExactPiecesFitUptoSaid : Prop := fnExactPiecesFitUptoRow.holds Try.pinned (OpenSpec.upto fnExactPiecesFitSpec)

end Rows
end Go.Proofs.Ytlcobdefieimmaa
