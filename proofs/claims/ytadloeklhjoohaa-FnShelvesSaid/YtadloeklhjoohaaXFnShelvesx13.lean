/- What functions of the program compute, as plain Lean functions, and that Go's calls come to just that: written by wip/tools/xprint.py for the law FnShelves. -/
import Derived.Test.YtadloeklhjoohaaXFnShelvesx0
import Derived.Test.YtadloeklhjoohaaXFnShelvesx1
import Derived.Test.YtadloeklhjoohaaXFnShelvesx3
import Derived.Test.YtadloeklhjoohaaXFnShelvesx4
import Derived.Test.YtadloeklhjoohaaXFnShelvesx5
import Derived.Test.YtadloeklhjoohaaXFnShelvesx6
import Derived.Test.YtadloeklhjoohaaXFnShelvesx7
import Derived.Test.YtadloeklhjoohaaXFnShelvesx8
import Derived.Test.YtadloeklhjoohaaXFnShelvesx9
import Derived.Test.YtadloeklhjoohaaXFnShelvesx10
import Derived.Test.YtadloeklhjoohaaXFnShelvesx11
import Derived.Test.YtadloeklhjoohaaXFnShelvesx12
namespace Go.Proofs.Ytadloeklhjoohaa.XFnShelves
open Go.RowKit Go.Proofs.YtadloeklhjoohaaW.PrintWords Go.Proofs.YtadloeklhjoohaaW.PrintLast Go.Proofs.YtadloeklhjoohaaW.PrintMore
attribute [local go_sem] max2_int min2_int max_two min_two max_three min_three max_four min_four   -- for this text's walks alone
set_option linter.unusedVariables false
set_option linter.unusedSimpArgs false

/-! ### laws_FnShelves: function 4 -/
theorem laws_FnShelves.calls (k : Nat) (A0 : Option Addr) (c0 : Nat) (l0 : List Int) (r : Bool) (w : World) (hr0 : Kd.C (Kd.int .u8) w A0 l0.length l0) (hc0 : l0.length ≤ c0) (h : laws_FnShelves.f k l0 = some r) (hT_ : r = true) : Calls Try.prog 4 #[.slice A0 l0.length c0] w fun e w' => e = .returned (.bool r) ∧ Below w.heap.size w w' :=
 (laws_FnShelves.calls.part0.2 ⟨(laws_FnShelves.calls.part1.2 ⟨(laws_FnShelves.calls.part2.2 ⟨(laws_FnShelves.calls.part3.2 ⟨(laws_FnShelves.calls.part4.2 ⟨laws_FnShelves.calls.part5⟩)⟩)⟩)⟩)⟩) k A0 c0 l0 r w hr0 hc0 h hT_
theorem laws_FnShelves.walk (P : laws_FnShelves.Pure) (A0 : Option Addr) (c0 : Nat) (l0 : List Int) (w : World) (hr0 : Kd.C (Kd.int .u8) w A0 l0.length l0) (hc0 : l0.length ≤ c0) (hm0 : l0.length ≤ maxLen) (y0 : l0.length * 1 ≤ 140737488351232) (hw0 : (∀ x ∈ l0, (Lit.int .u8 x).wf = true)) :
  Calls Try.prog 4 #[.slice A0 l0.length c0] w fun e w' => e = .returned (.bool true) ∧ Below w.heap.size w w' := by
 obtain ⟨k, h⟩ := P l0 hm0 y0 hw0
 refine (laws_FnShelves.calls k _ _ l0 true w hr0 hc0 h rfl).mono ?_
 rintro e w' ⟨rfl, hd⟩
 exact ⟨rfl, hd⟩


end Go.Proofs.Ytadloeklhjoohaa.XFnShelves
