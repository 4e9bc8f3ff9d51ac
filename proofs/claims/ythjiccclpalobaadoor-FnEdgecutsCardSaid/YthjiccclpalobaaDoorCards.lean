/-
  DERIVED. GIVEN WITH THE SEED: THE CARDS: each row of YthjiccclpalobaaDoorRows.lean that lists a variable, with what it lists TIED to the program's text (the seventh form; the later family's looks); each row that meets fmt, with fmt's text TOLD by the authors' own Lean function (tested against real Go, not proved from fmt's source: count such statements apart). THE CARD IS WHAT COUNTS. Prove the row's statement (the work); the ties are given (YthjiccclpalobaaDoorTie.lean); close each card by the builder's one call (the guide's Derived/Test/ToyasCard.lean, 'card_holds'). Laid BY PROGRAM, IN A SANDBOX (cutbox-door.mjs). By AI agents, Wed Nov 11 2026. No macro, syntax, notation, axiom, sorry.
-/
import Derived.Test.YthjiccclpalobaaDoorRows
import GoSem.ClaimSeven
namespace Go.Proofs.YthjiccclpalobaaDoor
namespace Rows

/-- THE TIED CARD OF 'laws.FnEdgecuts'. -/
def fnEdgecutsCard : Claim7 := { stood := { row := fnEdgecutsRow, standIns := [], harness := (true, "d305a9591f4f3f03d90c0ee2ef116d5e1249f7c203f453dce3214a28c39ee0e0"), looks := true }, kinds := [], alts := [], laidByText := true, laidKinds := [.data, .data, .data, .sentinel, .sentinel], laidTests := true, laidLooks := .later }
def FnEdgecutsCardSaid : Prop := Claim7.holds Tryd.pinned (.plain (OpenSpec.ofChange fnEdgecutsSpec)) fnEdgecutsCard

/-- THE TIED CARD OF 'laws.FnExactBestPlan'. -/
def fnExactBestPlanCard : Claim7 := { stood := { row := fnExactBestPlanRow, standIns := [], harness := (true, "d305a9591f4f3f03d90c0ee2ef116d5e1249f7c203f453dce3214a28c39ee0e0"), looks := true }, kinds := [], alts := [], laidByText := true, laidKinds := [.data, .data, .data], laidTests := true, laidLooks := .later }
def FnExactBestPlanCardSaid : Prop := Claim7.holds Tryd.pinned (.plain (OpenSpec.ofChange fnExactBestPlanSpec)) fnExactBestPlanCard

/-- THE TIED CARD OF 'laws.FnExactPlanValue'. -/
def fnExactPlanValueCard : Claim7 := { stood := { row := fnExactPlanValueRow, standIns := [], harness := (true, "d305a9591f4f3f03d90c0ee2ef116d5e1249f7c203f453dce3214a28c39ee0e0"), looks := true }, kinds := [], alts := [], laidByText := true, laidKinds := [.data, .data, .data, .sentinel, .sentinel], laidTests := true, laidLooks := .later }
def FnExactPlanValueCardSaid : Prop := Claim7.holds Tryd.pinned (.plain (OpenSpec.ofChange fnExactPlanValueSpec)) fnExactPlanValueCard

/-- THE SECOND FORM's CARD OF 'laws.FnEdgecuts'. -/
def fnEdgecutsUptoCard : Claim7 := { stood := { row := fnEdgecutsUptoRow, standIns := [], harness := (true, "d305a9591f4f3f03d90c0ee2ef116d5e1249f7c203f453dce3214a28c39ee0e0"), looks := true }, kinds := [], alts := [], laidByText := true, laidKinds := [.data, .data, .data, .sentinel, .sentinel], laidTests := true, laidLooks := .later }
def FnEdgecutsUptoCardSaid : Prop := Claim7.holds Tryd.pinned (.plain (OpenSpec.upto fnEdgecutsSpec)) fnEdgecutsUptoCard

/-- THE SECOND FORM's CARD OF 'laws.FnExactBestPlan'. -/
def fnExactBestPlanUptoCard : Claim7 := { stood := { row := fnExactBestPlanUptoRow, standIns := [], harness := (true, "d305a9591f4f3f03d90c0ee2ef116d5e1249f7c203f453dce3214a28c39ee0e0"), looks := true }, kinds := [], alts := [], laidByText := true, laidKinds := [.data, .data, .data], laidTests := true, laidLooks := .later }
def FnExactBestPlanUptoCardSaid : Prop := Claim7.holds Tryd.pinned (.plain (OpenSpec.upto fnExactBestPlanSpec)) fnExactBestPlanUptoCard

/-- THE SECOND FORM's CARD OF 'laws.FnExactPlanValue'. -/
def fnExactPlanValueUptoCard : Claim7 := { stood := { row := fnExactPlanValueUptoRow, standIns := [], harness := (true, "d305a9591f4f3f03d90c0ee2ef116d5e1249f7c203f453dce3214a28c39ee0e0"), looks := true }, kinds := [], alts := [], laidByText := true, laidKinds := [.data, .data, .data, .sentinel, .sentinel], laidTests := true, laidLooks := .later }
def FnExactPlanValueUptoCardSaid : Prop := Claim7.holds Tryd.pinned (.plain (OpenSpec.upto fnExactPlanValueSpec)) fnExactPlanValueUptoCard
end Rows
end Go.Proofs.YthjiccclpalobaaDoor
