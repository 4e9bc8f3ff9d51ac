/- What functions of the program compute, as plain Lean functions, and that Go's calls come to just that: written by wip/tools/xprint.py for the law FnCurrents. -/
import Derived.Test.YtadloeklhjoohaaXFnCurrentsx0
import Derived.Test.YtadloeklhjoohaaXFnCurrentsx2
import Derived.Test.YtadloeklhjoohaaXFnCurrentsx3
namespace Go.Proofs.Ytadloeklhjoohaa.XFnCurrents
open Go.RowKit Go.Proofs.YtadloeklhjoohaaW.PrintWords Go.Proofs.YtadloeklhjoohaaW.PrintLast Go.Proofs.YtadloeklhjoohaaW.PrintMore
attribute [local go_sem] max2_int min2_int max_two min_two max_three min_three max_four min_four   -- for this text's walks alone
set_option linter.unusedVariables false
set_option linter.unusedSimpArgs false

-- NOT PRINTED: function 85 (bits_OnesCount32)

/-! ### bits_OnesCount64: function 86 -/
def bits_OnesCount64.f (a0 : Int) : Option (Int) := some (Go.bits .and .i64 (wrap64 (IntKind.u64.wrap ((IntKind.u64.wrap ((IntKind.u64.wrap ((Go.bits .and .u64 (IntKind.u64.wrap (((IntKind.u64.wrap ((Go.bits .and .u64 ((IntKind.u64.wrap ((Go.bits .and .u64 (a0 / 2) 6148914691236517205) + (Go.bits .and .u64 a0 6148914691236517205))) / 4) 3689348814741910323) + (Go.bits .and .u64 (IntKind.u64.wrap ((Go.bits .and .u64 (a0 / 2) 6148914691236517205) + (Go.bits .and .u64 a0 6148914691236517205))) 3689348814741910323))) / 16) + (IntKind.u64.wrap ((Go.bits .and .u64 ((IntKind.u64.wrap ((Go.bits .and .u64 (a0 / 2) 6148914691236517205) + (Go.bits .and .u64 a0 6148914691236517205))) / 4) 3689348814741910323) + (Go.bits .and .u64 (IntKind.u64.wrap ((Go.bits .and .u64 (a0 / 2) 6148914691236517205) + (Go.bits .and .u64 a0 6148914691236517205))) 3689348814741910323))))) 1085102592571150095) + ((Go.bits .and .u64 (IntKind.u64.wrap (((IntKind.u64.wrap ((Go.bits .and .u64 ((IntKind.u64.wrap ((Go.bits .and .u64 (a0 / 2) 6148914691236517205) + (Go.bits .and .u64 a0 6148914691236517205))) / 4) 3689348814741910323) + (Go.bits .and .u64 (IntKind.u64.wrap ((Go.bits .and .u64 (a0 / 2) 6148914691236517205) + (Go.bits .and .u64 a0 6148914691236517205))) 3689348814741910323))) / 16) + (IntKind.u64.wrap ((Go.bits .and .u64 ((IntKind.u64.wrap ((Go.bits .and .u64 (a0 / 2) 6148914691236517205) + (Go.bits .and .u64 a0 6148914691236517205))) / 4) 3689348814741910323) + (Go.bits .and .u64 (IntKind.u64.wrap ((Go.bits .and .u64 (a0 / 2) 6148914691236517205) + (Go.bits .and .u64 a0 6148914691236517205))) 3689348814741910323))))) 1085102592571150095) / 256))) + ((IntKind.u64.wrap ((Go.bits .and .u64 (IntKind.u64.wrap (((IntKind.u64.wrap ((Go.bits .and .u64 ((IntKind.u64.wrap ((Go.bits .and .u64 (a0 / 2) 6148914691236517205) + (Go.bits .and .u64 a0 6148914691236517205))) / 4) 3689348814741910323) + (Go.bits .and .u64 (IntKind.u64.wrap ((Go.bits .and .u64 (a0 / 2) 6148914691236517205) + (Go.bits .and .u64 a0 6148914691236517205))) 3689348814741910323))) / 16) + (IntKind.u64.wrap ((Go.bits .and .u64 ((IntKind.u64.wrap ((Go.bits .and .u64 (a0 / 2) 6148914691236517205) + (Go.bits .and .u64 a0 6148914691236517205))) / 4) 3689348814741910323) + (Go.bits .and .u64 (IntKind.u64.wrap ((Go.bits .and .u64 (a0 / 2) 6148914691236517205) + (Go.bits .and .u64 a0 6148914691236517205))) 3689348814741910323))))) 1085102592571150095) + ((Go.bits .and .u64 (IntKind.u64.wrap (((IntKind.u64.wrap ((Go.bits .and .u64 ((IntKind.u64.wrap ((Go.bits .and .u64 (a0 / 2) 6148914691236517205) + (Go.bits .and .u64 a0 6148914691236517205))) / 4) 3689348814741910323) + (Go.bits .and .u64 (IntKind.u64.wrap ((Go.bits .and .u64 (a0 / 2) 6148914691236517205) + (Go.bits .and .u64 a0 6148914691236517205))) 3689348814741910323))) / 16) + (IntKind.u64.wrap ((Go.bits .and .u64 ((IntKind.u64.wrap ((Go.bits .and .u64 (a0 / 2) 6148914691236517205) + (Go.bits .and .u64 a0 6148914691236517205))) / 4) 3689348814741910323) + (Go.bits .and .u64 (IntKind.u64.wrap ((Go.bits .and .u64 (a0 / 2) 6148914691236517205) + (Go.bits .and .u64 a0 6148914691236517205))) 3689348814741910323))))) 1085102592571150095) / 256))) / 65536))) + ((IntKind.u64.wrap ((IntKind.u64.wrap ((Go.bits .and .u64 (IntKind.u64.wrap (((IntKind.u64.wrap ((Go.bits .and .u64 ((IntKind.u64.wrap ((Go.bits .and .u64 (a0 / 2) 6148914691236517205) + (Go.bits .and .u64 a0 6148914691236517205))) / 4) 3689348814741910323) + (Go.bits .and .u64 (IntKind.u64.wrap ((Go.bits .and .u64 (a0 / 2) 6148914691236517205) + (Go.bits .and .u64 a0 6148914691236517205))) 3689348814741910323))) / 16) + (IntKind.u64.wrap ((Go.bits .and .u64 ((IntKind.u64.wrap ((Go.bits .and .u64 (a0 / 2) 6148914691236517205) + (Go.bits .and .u64 a0 6148914691236517205))) / 4) 3689348814741910323) + (Go.bits .and .u64 (IntKind.u64.wrap ((Go.bits .and .u64 (a0 / 2) 6148914691236517205) + (Go.bits .and .u64 a0 6148914691236517205))) 3689348814741910323))))) 1085102592571150095) + ((Go.bits .and .u64 (IntKind.u64.wrap (((IntKind.u64.wrap ((Go.bits .and .u64 ((IntKind.u64.wrap ((Go.bits .and .u64 (a0 / 2) 6148914691236517205) + (Go.bits .and .u64 a0 6148914691236517205))) / 4) 3689348814741910323) + (Go.bits .and .u64 (IntKind.u64.wrap ((Go.bits .and .u64 (a0 / 2) 6148914691236517205) + (Go.bits .and .u64 a0 6148914691236517205))) 3689348814741910323))) / 16) + (IntKind.u64.wrap ((Go.bits .and .u64 ((IntKind.u64.wrap ((Go.bits .and .u64 (a0 / 2) 6148914691236517205) + (Go.bits .and .u64 a0 6148914691236517205))) / 4) 3689348814741910323) + (Go.bits .and .u64 (IntKind.u64.wrap ((Go.bits .and .u64 (a0 / 2) 6148914691236517205) + (Go.bits .and .u64 a0 6148914691236517205))) 3689348814741910323))))) 1085102592571150095) / 256))) + ((IntKind.u64.wrap ((Go.bits .and .u64 (IntKind.u64.wrap (((IntKind.u64.wrap ((Go.bits .and .u64 ((IntKind.u64.wrap ((Go.bits .and .u64 (a0 / 2) 6148914691236517205) + (Go.bits .and .u64 a0 6148914691236517205))) / 4) 3689348814741910323) + (Go.bits .and .u64 (IntKind.u64.wrap ((Go.bits .and .u64 (a0 / 2) 6148914691236517205) + (Go.bits .and .u64 a0 6148914691236517205))) 3689348814741910323))) / 16) + (IntKind.u64.wrap ((Go.bits .and .u64 ((IntKind.u64.wrap ((Go.bits .and .u64 (a0 / 2) 6148914691236517205) + (Go.bits .and .u64 a0 6148914691236517205))) / 4) 3689348814741910323) + (Go.bits .and .u64 (IntKind.u64.wrap ((Go.bits .and .u64 (a0 / 2) 6148914691236517205) + (Go.bits .and .u64 a0 6148914691236517205))) 3689348814741910323))))) 1085102592571150095) + ((Go.bits .and .u64 (IntKind.u64.wrap (((IntKind.u64.wrap ((Go.bits .and .u64 ((IntKind.u64.wrap ((Go.bits .and .u64 (a0 / 2) 6148914691236517205) + (Go.bits .and .u64 a0 6148914691236517205))) / 4) 3689348814741910323) + (Go.bits .and .u64 (IntKind.u64.wrap ((Go.bits .and .u64 (a0 / 2) 6148914691236517205) + (Go.bits .and .u64 a0 6148914691236517205))) 3689348814741910323))) / 16) + (IntKind.u64.wrap ((Go.bits .and .u64 ((IntKind.u64.wrap ((Go.bits .and .u64 (a0 / 2) 6148914691236517205) + (Go.bits .and .u64 a0 6148914691236517205))) / 4) 3689348814741910323) + (Go.bits .and .u64 (IntKind.u64.wrap ((Go.bits .and .u64 (a0 / 2) 6148914691236517205) + (Go.bits .and .u64 a0 6148914691236517205))) 3689348814741910323))))) 1085102592571150095) / 256))) / 65536))) / 4294967296)))) 127)
set_option maxHeartbeats 8000000 in
set_option maxRecDepth 100000 in
theorem bits_OnesCount64.calls (a0 : Int) (r : Int) (w : World) (h : bits_OnesCount64.f a0 = some r) :
    Calls Try.prog 86 #[.int .u64 a0] w fun e w' => e = .returned (.int .i64 r) ∧ Drawn0 w w' := by
  have H : (some (Go.bits .and .i64 (wrap64 (IntKind.u64.wrap ((IntKind.u64.wrap ((IntKind.u64.wrap ((Go.bits .and .u64 (IntKind.u64.wrap (((IntKind.u64.wrap ((Go.bits .and .u64 ((IntKind.u64.wrap ((Go.bits .and .u64 (a0 / 2) 6148914691236517205) + (Go.bits .and .u64 a0 6148914691236517205))) / 4) 3689348814741910323) + (Go.bits .and .u64 (IntKind.u64.wrap ((Go.bits .and .u64 (a0 / 2) 6148914691236517205) + (Go.bits .and .u64 a0 6148914691236517205))) 3689348814741910323))) / 16) + (IntKind.u64.wrap ((Go.bits .and .u64 ((IntKind.u64.wrap ((Go.bits .and .u64 (a0 / 2) 6148914691236517205) + (Go.bits .and .u64 a0 6148914691236517205))) / 4) 3689348814741910323) + (Go.bits .and .u64 (IntKind.u64.wrap ((Go.bits .and .u64 (a0 / 2) 6148914691236517205) + (Go.bits .and .u64 a0 6148914691236517205))) 3689348814741910323))))) 1085102592571150095) + ((Go.bits .and .u64 (IntKind.u64.wrap (((IntKind.u64.wrap ((Go.bits .and .u64 ((IntKind.u64.wrap ((Go.bits .and .u64 (a0 / 2) 6148914691236517205) + (Go.bits .and .u64 a0 6148914691236517205))) / 4) 3689348814741910323) + (Go.bits .and .u64 (IntKind.u64.wrap ((Go.bits .and .u64 (a0 / 2) 6148914691236517205) + (Go.bits .and .u64 a0 6148914691236517205))) 3689348814741910323))) / 16) + (IntKind.u64.wrap ((Go.bits .and .u64 ((IntKind.u64.wrap ((Go.bits .and .u64 (a0 / 2) 6148914691236517205) + (Go.bits .and .u64 a0 6148914691236517205))) / 4) 3689348814741910323) + (Go.bits .and .u64 (IntKind.u64.wrap ((Go.bits .and .u64 (a0 / 2) 6148914691236517205) + (Go.bits .and .u64 a0 6148914691236517205))) 3689348814741910323))))) 1085102592571150095) / 256))) + ((IntKind.u64.wrap ((Go.bits .and .u64 (IntKind.u64.wrap (((IntKind.u64.wrap ((Go.bits .and .u64 ((IntKind.u64.wrap ((Go.bits .and .u64 (a0 / 2) 6148914691236517205) + (Go.bits .and .u64 a0 6148914691236517205))) / 4) 3689348814741910323) + (Go.bits .and .u64 (IntKind.u64.wrap ((Go.bits .and .u64 (a0 / 2) 6148914691236517205) + (Go.bits .and .u64 a0 6148914691236517205))) 3689348814741910323))) / 16) + (IntKind.u64.wrap ((Go.bits .and .u64 ((IntKind.u64.wrap ((Go.bits .and .u64 (a0 / 2) 6148914691236517205) + (Go.bits .and .u64 a0 6148914691236517205))) / 4) 3689348814741910323) + (Go.bits .and .u64 (IntKind.u64.wrap ((Go.bits .and .u64 (a0 / 2) 6148914691236517205) + (Go.bits .and .u64 a0 6148914691236517205))) 3689348814741910323))))) 1085102592571150095) + ((Go.bits .and .u64 (IntKind.u64.wrap (((IntKind.u64.wrap ((Go.bits .and .u64 ((IntKind.u64.wrap ((Go.bits .and .u64 (a0 / 2) 6148914691236517205) + (Go.bits .and .u64 a0 6148914691236517205))) / 4) 3689348814741910323) + (Go.bits .and .u64 (IntKind.u64.wrap ((Go.bits .and .u64 (a0 / 2) 6148914691236517205) + (Go.bits .and .u64 a0 6148914691236517205))) 3689348814741910323))) / 16) + (IntKind.u64.wrap ((Go.bits .and .u64 ((IntKind.u64.wrap ((Go.bits .and .u64 (a0 / 2) 6148914691236517205) + (Go.bits .and .u64 a0 6148914691236517205))) / 4) 3689348814741910323) + (Go.bits .and .u64 (IntKind.u64.wrap ((Go.bits .and .u64 (a0 / 2) 6148914691236517205) + (Go.bits .and .u64 a0 6148914691236517205))) 3689348814741910323))))) 1085102592571150095) / 256))) / 65536))) + ((IntKind.u64.wrap ((IntKind.u64.wrap ((Go.bits .and .u64 (IntKind.u64.wrap (((IntKind.u64.wrap ((Go.bits .and .u64 ((IntKind.u64.wrap ((Go.bits .and .u64 (a0 / 2) 6148914691236517205) + (Go.bits .and .u64 a0 6148914691236517205))) / 4) 3689348814741910323) + (Go.bits .and .u64 (IntKind.u64.wrap ((Go.bits .and .u64 (a0 / 2) 6148914691236517205) + (Go.bits .and .u64 a0 6148914691236517205))) 3689348814741910323))) / 16) + (IntKind.u64.wrap ((Go.bits .and .u64 ((IntKind.u64.wrap ((Go.bits .and .u64 (a0 / 2) 6148914691236517205) + (Go.bits .and .u64 a0 6148914691236517205))) / 4) 3689348814741910323) + (Go.bits .and .u64 (IntKind.u64.wrap ((Go.bits .and .u64 (a0 / 2) 6148914691236517205) + (Go.bits .and .u64 a0 6148914691236517205))) 3689348814741910323))))) 1085102592571150095) + ((Go.bits .and .u64 (IntKind.u64.wrap (((IntKind.u64.wrap ((Go.bits .and .u64 ((IntKind.u64.wrap ((Go.bits .and .u64 (a0 / 2) 6148914691236517205) + (Go.bits .and .u64 a0 6148914691236517205))) / 4) 3689348814741910323) + (Go.bits .and .u64 (IntKind.u64.wrap ((Go.bits .and .u64 (a0 / 2) 6148914691236517205) + (Go.bits .and .u64 a0 6148914691236517205))) 3689348814741910323))) / 16) + (IntKind.u64.wrap ((Go.bits .and .u64 ((IntKind.u64.wrap ((Go.bits .and .u64 (a0 / 2) 6148914691236517205) + (Go.bits .and .u64 a0 6148914691236517205))) / 4) 3689348814741910323) + (Go.bits .and .u64 (IntKind.u64.wrap ((Go.bits .and .u64 (a0 / 2) 6148914691236517205) + (Go.bits .and .u64 a0 6148914691236517205))) 3689348814741910323))))) 1085102592571150095) / 256))) + ((IntKind.u64.wrap ((Go.bits .and .u64 (IntKind.u64.wrap (((IntKind.u64.wrap ((Go.bits .and .u64 ((IntKind.u64.wrap ((Go.bits .and .u64 (a0 / 2) 6148914691236517205) + (Go.bits .and .u64 a0 6148914691236517205))) / 4) 3689348814741910323) + (Go.bits .and .u64 (IntKind.u64.wrap ((Go.bits .and .u64 (a0 / 2) 6148914691236517205) + (Go.bits .and .u64 a0 6148914691236517205))) 3689348814741910323))) / 16) + (IntKind.u64.wrap ((Go.bits .and .u64 ((IntKind.u64.wrap ((Go.bits .and .u64 (a0 / 2) 6148914691236517205) + (Go.bits .and .u64 a0 6148914691236517205))) / 4) 3689348814741910323) + (Go.bits .and .u64 (IntKind.u64.wrap ((Go.bits .and .u64 (a0 / 2) 6148914691236517205) + (Go.bits .and .u64 a0 6148914691236517205))) 3689348814741910323))))) 1085102592571150095) + ((Go.bits .and .u64 (IntKind.u64.wrap (((IntKind.u64.wrap ((Go.bits .and .u64 ((IntKind.u64.wrap ((Go.bits .and .u64 (a0 / 2) 6148914691236517205) + (Go.bits .and .u64 a0 6148914691236517205))) / 4) 3689348814741910323) + (Go.bits .and .u64 (IntKind.u64.wrap ((Go.bits .and .u64 (a0 / 2) 6148914691236517205) + (Go.bits .and .u64 a0 6148914691236517205))) 3689348814741910323))) / 16) + (IntKind.u64.wrap ((Go.bits .and .u64 ((IntKind.u64.wrap ((Go.bits .and .u64 (a0 / 2) 6148914691236517205) + (Go.bits .and .u64 a0 6148914691236517205))) / 4) 3689348814741910323) + (Go.bits .and .u64 (IntKind.u64.wrap ((Go.bits .and .u64 (a0 / 2) 6148914691236517205) + (Go.bits .and .u64 a0 6148914691236517205))) 3689348814741910323))))) 1085102592571150095) / 256))) / 65536))) / 4294967296)))) 127)) = some r := h
  clear h
  obtain rfl := Option.some.inj H
  go_enter Try.func86, Try.ntmps86
  go_wp2
  go_ret
  exact ⟨by first | rfl | (simp; done) | (simp [*]; done), by repeat (first | exact Drawn0.refl _ | apply Drawn0.step)⟩

/-! ### bits_OnesCount: function 82 -/
def bits_OnesCount.f (a0 : Int) : Option (Int) := (bits_OnesCount64.f a0).bind fun t187 => (some t187)
set_option maxHeartbeats 8000000 in
set_option maxRecDepth 100000 in
theorem bits_OnesCount.calls (a0 : Int) (r : Int) (w : World) (h : bits_OnesCount.f a0 = some r) :
    Calls Try.prog 82 #[.int .u64 a0] w fun e w' => e = .returned (.int .i64 r) ∧ Drawn0 w w' := by
  have H : ((bits_OnesCount64.f a0).bind fun t187 => (some t187)) = some r := h
  clear h
  replace H := Option.bind_eq_some_iff.mp H
  obtain ⟨t187, A20, H⟩ := H
  replace H : (some t187) = some r := H
  have A2 := Aside0.mk A20
  clear A20
  obtain rfl := Option.some.inj H
  go_enter Try.func82, Try.ntmps82
  go_wp2_with (first | ((with_reducible refine gate_callee (f := 86) rfl ?_); refine goesL_ (some 7) rfl rfl Try.func86 (by kernel_rfl) rfl #[.int .u64 a0] rfl (by (try simp only [List.map_toArray, List.map_cons, List.map_nil]); first | done | rfl | (simp only [List.length_drop, List.length_take]; rfl)) ?_; (with_reducible refine (bits_OnesCount64.calls a0 t187 _ A2.out).mono ?_); rintro e w' ⟨rfl, ⟨nd, rfl⟩⟩; refine ⟨_, rfl, ?_⟩))
  go_ret
  exact ⟨by first | rfl | (simp; done) | (simp [*]; done), by repeat (first | exact Drawn0.refl _ | apply Drawn0.step)⟩

-- NOT PRINTED: function 72 (impl_countSets)

/-! ### impl_countTrees: function 42 -/
def cs.l0 {St : Type} (step : St → List Int → Option St) : Nat → Int → List (List Int) → Int → St → Int → Option St
  | 0, _, _, _, _, _ => none
  | k + 1, n, ws, many, s, set => if set < shl .i64 1 (ws.length : Int) then ((bits_OnesCount.f (IntKind.u64.wrap set)).bind fun t => if t = many then ((impl_joined.f k n ws set).bind fun b => if b.2 = true then ((step s b.1).bind fun s' => cs.l0 step k n ws many s' (wrap64 (set + 1))) else (cs.l0 step k n ws many s (wrap64 (set + 1)))) else (cs.l0 step k n ws many s (wrap64 (set + 1)))) else (some s)
theorem cs.mono_l {St : Type} (step : St → List Int → Option St) : ∀ k, (∀ y0 y1 y2 y3 y4, LeO (cs.l0 step k y0 y1 y2 y3 y4) (cs.l0 step (k + 1) y0 y1 y2 y3 y4))
  | 0 => fun _ _ _ _ _ r h => by simp [cs.l0] at h
  | k + 1 => by
    have ih0 := cs.mono_l step k
    intro y0 y1 y2 y3 y4
    unfold cs.l0
    repeat' first
      | (with_reducible exact ih0 _ _ _ _ _)
      | (with_reducible exact impl_joined.mono _ _ _ _)
      | (with_reducible exact LeO.refl _)
      | (with_reducible exact LeO.none _)
      | (with_reducible refine LeO.ite ?_ ?_)
      | (with_reducible refine LeO.bind ?_ (fun _ => ?_))
      | exact ih0 _ _ _ _ _
      | exact LeO.none _
      | refine LeO.ite ?_ ?_
      | refine LeO.bind ?_ (fun _ => ?_)
set_option maxHeartbeats 2000000 in
set_option maxRecDepth 100000 in
theorem cs.calls {St : Type} (Inv : World → St → Prop) (step : St → List Int → Option St) (g : Nat) (lb : Array Value) (eg : ∀ args w, (callFunc g args).run Try.prog w = .ok (.enter g args) w) (n : Int) (A : Option Addr) (c : Nat) (ws : List (List Int)) (many : Int)
    (hlen : ws.length ≤ 12) (hc : ws.length ≤ c)
    (hv : ∀ (W0 W : World) (s s' : St) (A' : Option Addr) (c' : Nat) (gs : List Int), Inv W0 s → Inv W s → Kd.R (Kd.int .i64) 3 W W0.heap.size (fun _ => True) (.slice A' gs.length c') gs → step s gs = some s' → Calls Try.prog g (#[.slice A' gs.length c'] ++ lb) W fun e w' => e = .returned (.tuple #[]) ∧ Inv w' s')
    (hb : ∀ (W W' : World) (s : St), Inv W s → Below W.heap.size W W' → Inv W' s)
    (hw : ∀ (W : World) (s : St), Inv W s → Kd.C (Kd.slice 3 (Kd.int .i64)) W A ws.length ws)
    (k : Nat) (s s' : St) (w : World) (h : cs.l0 step k n ws many s 0 = some s') (hi : Inv w s) :
    Calls Try.prog 72 #[.int .i64 n, .slice A ws.length c, .int .i64 many, .func (.func g) #[] lb] w fun e w' => e = .returned (.tuple #[]) ∧ Inv w' s' := by
  have HV := Aside0.mk hv
  have HBL := Aside0.mk hb
  have HW := Aside0.mk hw
  have HI := Aside0.mk hi
  have HC := Aside0.mk hc
  have H' := Aside0.mk h
  clear hv hb hw hi hc h
  obtain ⟨j, hj⟩ : ∃ j_ : Int, shl .i64 1 (ws.length : Int) = j_ := ⟨_, rfl⟩
  have HJ := Aside0.mk hj
  have e1 : (IntKind.i64.wrap (1 * 2 ^ min (ws.length : Int).toNat 64)) = j := hj
  have e2 : (IntKind.i64.wrap (1 * 2 ^ min ws.length 64)) = j := e1
  have e3 : (IntKind.i64.wrap (1 * 2 ^ ws.length)) = j := by rw [← e2, Nat.min_eq_left (by omega)]
  have e4 : (IntKind.i64.wrap (2 ^ ws.length)) = j := by have := e3; rw [Int.one_mul] at this; exact this
  clear hj
  go_enter Try.func72, Try.ntmps72
  go_wp2
  go_loopg [14] k (fun kq v14 w' => ∃ (s1 : St) (x14 : Int), v14 = .int .i64 x14 ∧ Aside0 (cs.l0 step kq n ws many s1 x14 = some s') ∧ Aside0 (kq ≤ k) ∧ Aside0 (Inv w' s1))
  case atStart => exact ⟨s, 0, rfl, H', ⟨Nat.le_refl _⟩, HI⟩
  case round =>
    clear H' HI
    obtain ⟨s1, x14, rfl, HA, HK1, HI⟩ := hrel
    cases gk with
    | zero => exact absurd HA.out (by simp [cs.l0])
    | succ k1 =>
      have H := HA.out
      clear HA
      simp only [cs.l0] at H
      rw [HJ.out] at H
      by_cases c7 : x14 < j
      · rw [if_pos c7] at H
        have c7b0 : decide (x14 < j) = true := decide_eq_true c7
        clear c7
        obtain ⟨t, ht, H⟩ := Option.bind_eq_some_iff.mp H
        have HT := Aside0.mk ht
        clear ht
        by_cases c9 : t = many
        · rw [if_pos c9] at H
          have c9b0 : (t == many) = true := beq_iff_eq.mpr c9
          have c9b1 : (t != many) = false := bne_eq_false_iff_eq.mpr c9
          clear c9
          obtain ⟨⟨gs, b⟩, hjn, H⟩ := Option.bind_eq_some_iff.mp H
          have HJN := Aside0.mk hjn
          clear hjn
          cases b with
          | true =>
            replace H : ((step s1 gs).bind fun s' => cs.l0 step k1 n ws many s' (wrap64 (x14 + 1))) = some s' := H
            obtain ⟨s2, hs2, H⟩ := Option.bind_eq_some_iff.mp H
            have HS2 := Aside0.mk hs2
            have H' := Aside0.mk H
            clear hs2 H
            have HI0 := HI
            go_wp2_with fail
            refine (bits_OnesCount.calls _ t _ HT.out).mono ?_
            rintro e w1 ⟨rfl, hdr⟩
            have HI1 := Aside0.mk (HBL.out _ w1 _ HI.out hdr.below)
            clear hdr HI
            go_wp2_with fail
            refine (impl_joined.calls k1 n A c ws x14 gs true w1 (HW.out _ _ HI1.out) HC.out HJN.out).mono ?_
            rintro e w2 ⟨v0, rfl, ho, hbb⟩
            obtain ⟨A', c', rfl⟩ := Kd.R_slice ho
            have HR := Aside0.mk ho
            have HI10 := HI1
            have HI2 := Aside0.mk (HBL.out _ w2 _ HI1.out hbb)
            clear ho hbb HI1
            go_wp2_with fail
            refine (HV.out w1 w2 s1 s2 A' c' gs HI10.out HI2.out HR.out HS2.out).mono ?_
            rintro e w3 ⟨rfl, hi3⟩
            have HI3 := Aside0.mk hi3
            clear hi3
            go_wp2
            go_roundg k1
            case measure => have := HK1.out; omega
            case rel => exact ⟨s2, wrap64 (x14 + 1), by first | rfl | (simp; done), H', ⟨by have := HK1.out; omega⟩, HI3⟩
          | false =>
            replace H : cs.l0 step k1 n ws many s1 (wrap64 (x14 + 1)) = some s' := H
            have H' := Aside0.mk H
            clear H
            go_wp2_with fail
            refine (bits_OnesCount.calls _ t _ HT.out).mono ?_
            rintro e w1 ⟨rfl, hdr⟩
            have HI1 := Aside0.mk (HBL.out _ w1 _ HI.out hdr.below)
            clear hdr HI
            go_wp2_with fail
            refine (impl_joined.calls k1 n A c ws x14 gs false w1 (HW.out _ _ HI1.out) HC.out HJN.out).mono ?_
            rintro e w2 ⟨v0, rfl, ho, hbb⟩
            have HI2 := Aside0.mk (HBL.out _ w2 _ HI1.out hbb)
            clear ho hbb HI1
            go_wp2
            go_roundg k1
            case measure => have := HK1.out; omega
            case rel => exact ⟨s1, wrap64 (x14 + 1), by first | rfl | (simp; done), H', ⟨by have := HK1.out; omega⟩, HI2⟩
        · rw [if_neg c9] at H
          have c9b0 : (t == many) = false := beq_eq_false_iff_ne.mpr c9
          have c9b1 : (t != many) = true := bne_iff_ne.mpr c9
          clear c9
          have H' := Aside0.mk H
          clear H
          go_wp2_with fail
          refine (bits_OnesCount.calls _ t _ HT.out).mono ?_
          rintro e w1 ⟨rfl, hdr⟩
          have HI1 := Aside0.mk (HBL.out _ w1 _ HI.out hdr.below)
          clear hdr HI
          go_wp2
          go_roundg k1
          case measure => have := HK1.out; omega
          case rel => exact ⟨s1, wrap64 (x14 + 1), by first | rfl | (simp; done), H', ⟨by have := HK1.out; omega⟩, HI1⟩
      · rw [if_neg c7] at H
        have c7b0 : decide (x14 < j) = false := decide_eq_false c7
        clear c7
        obtain rfl := Option.some.inj H
        go_wp2
        go_end0
        exact ⟨rfl, HI.out⟩
def impl_countTrees.f (k : Nat) (a0 : Int) (l1 : List (List Int)) : Option (Int) := if l1.length ≤ 12 then cs.l0 (fun s _ => some (wrap64 (s + 1))) k a0 l1 (wrap64 (a0 - 1)) 0 0 else none
theorem impl_countTrees.mono : ∀ a0 a1 k, LeO (impl_countTrees.f k a0 a1) (impl_countTrees.f (k + 1) a0 a1) := by
  intro a0 a1 k
  unfold impl_countTrees.f
  exact LeO.ite (cs.mono_l _ k _ _ _ _ _) (LeO.refl _)
theorem impl_countTrees.lit (B : Nat) (s : Int) (A : Option Addr) (n c : Nat) (W : World) (hc : W.cell? ⟨B, 0, none⟩ = some (.int .i64 s)) (hf : W.frozen? ⟨B, 0, none⟩ = false) :
    Calls Try.prog 73 #[.slice A n c, .pointer (some ⟨B, 0, none⟩)] W fun e w' => e = .returned (.tuple #[]) ∧ w' = W.setCell ⟨B, 0, none⟩ (.int .i64 (wrap64 (s + 1))) := by
  go_enter Try.func73, Try.ntmps73
  go_wp2
  go_end0
  exact ⟨rfl, rfl⟩
/-- The counter's block. -/
def CtInv (w : World) (W : World) (s : Int) : Prop :=
  W.heap[w.heap.size]? = some (.cells #[.int .i64 s] 3 (0, 0)) ∧ Below w.heap.size w W
theorem impl_countTrees.calls (k : Nat) (a0 : Int) (A1 : Option Addr) (c1 : Nat) (l1 : List (List Int)) (r : Int) (w : World) (hr1 : Kd.C (Kd.slice 3 (Kd.int .i64)) w A1 l1.length l1) (hc1 : l1.length ≤ c1) (h : impl_countTrees.f k a0 l1 = some r) :
    Calls Try.prog 42 #[.int .i64 a0, .slice A1 l1.length c1] w fun e w' => e = .returned (.int .i64 r) ∧ Below w.heap.size w w' := by
  unfold impl_countTrees.f at h
  by_cases hlen : l1.length ≤ 12
  · rw [if_pos hlen] at h
    have HCS : ∀ W : World, CtInv w W 0 → Calls Try.prog 72 #[.int .i64 a0, .slice A1 l1.length c1, .int .i64 (wrap64 (a0 - 1)), .func (.func 73) #[] #[.pointer (some ⟨w.heap.size, 0, none⟩)]] W fun e w' => e = .returned (.tuple #[]) ∧ CtInv w w' r := fun W hW =>
      cs.calls (CtInv w) _ 73 #[.pointer (some ⟨w.heap.size, 0, none⟩)] (enters_of Try.func73 (by kernel_rfl) rfl) a0 A1 c1 l1 (wrap64 (a0 - 1)) hlen hc1
        (fun _ W1 s s' A' c' gs _ hI _ hs => by
          obtain ⟨h1, h2⟩ := hI
          obtain rfl := Option.some.inj hs
          refine (impl_countTrees.lit w.heap.size s A' gs.length c' W1 (cell_of_one h1) (free_of_one h1)).mono fun e w' ⟨he, hw⟩ => ⟨he, ?_⟩
          subst hw
          exact ⟨one_setCell h1, h2.setCell (Nat.le_refl _) _⟩)
        (fun W1 W2 s hI hb => by
          obtain ⟨h1, h2⟩ := hI
          exact ⟨(hb.block _ (Array.getElem?_eq_some_iff.1 h1).1).trans h1, h2.trans (hb.mono h2.size)⟩)
        (fun W1 s hI => Kd.C_below hr1 hI.2) k 0 r W h hW
    have HCSA := Aside0.mk HCS
    clear HCS h hr1
    go_enter Try.func42, Try.ntmps42
    go_wp2_with fail
    refine (HCSA.out _ ⟨by show (w.heap.push _)[w.heap.size]? = _; simp, below_alloc (Below.refl _ _) _⟩).mono ?_
    rintro e w1 ⟨rfl, h1, h2⟩
    have hcell := cell_of_one h1
    have HB := Aside0.mk h2
    clear h1 h2
    go_wp2
    go_ret
    exact ⟨rfl, HB.out⟩
  · rw [if_neg hlen] at h
    exact absurd h (by simp)

/-! ### impl_CountTrees: function 7 -/
def impl_CountTrees.f (k : Nat) (a0 : Int) (l1 : List (List Int)) : Option (Int) := (impl_CircuitOk.f k a0 l1).bind fun t188 => (if t188 = true then ((impl_countTrees.f k a0 l1).bind fun t189 => (some t189)) else (some (-1)))
theorem impl_CountTrees.mono : ∀ a0 a1 k, LeO (impl_CountTrees.f k a0 a1) (impl_CountTrees.f (k + 1) a0 a1) := by
  intro a0 a1 k
  unfold impl_CountTrees.f
  repeat' first
      | (with_reducible exact impl_CircuitOk.mono _ _ _)
      | (with_reducible exact impl_countTrees.mono _ _ _)
      | (with_reducible exact LeO.refl _)
      | (with_reducible exact LeO.none _)
      | (with_reducible refine LeO.ite ?_ ?_)
      | (with_reducible refine LeO.bind ?_ (fun _ => ?_))
      | exact impl_CircuitOk.mono _ _ _
      | exact impl_countTrees.mono _ _ _
      | exact LeO.none _
      | refine LeO.ite ?_ ?_
      | refine LeO.bind ?_ (fun _ => ?_)
set_option maxHeartbeats 8000000 in
set_option maxRecDepth 100000 in
theorem impl_CountTrees.calls (k : Nat) (a0 : Int) (A1 : Option Addr) (c1 : Nat) (l1 : List (List Int)) (r : Int) (w : World) (hr1 : Kd.C (Kd.slice 3 (Kd.int .i64)) w A1 l1.length l1) (hc1 : l1.length ≤ c1) (h : impl_CountTrees.f k a0 l1 = some r) :
    Calls Try.prog 7 #[.int .i64 a0, .slice A1 l1.length c1] w fun e w' => e = .returned (.int .i64 r) ∧ Below w.heap.size w w' := by
  have HR1 := Aside0.mk hr1
  have HC1 := Aside0.mk hc1
  clear hr1 hc1
  have HB := Aside0.mk (Below.refl w.heap.size w)
  have H : ((impl_CircuitOk.f k a0 l1).bind fun t188 => (if t188 = true then ((impl_countTrees.f k a0 l1).bind fun t189 => (some t189)) else (some (-1)))) = some r := h
  clear h
  replace H := Option.bind_eq_some_iff.mp H
  obtain ⟨t188, A30, H⟩ := H
  replace H : (if t188 = true then ((impl_countTrees.f k a0 l1).bind fun t189 => (some t189)) else (some (-1))) = some r := H
  have A3 := Aside0.mk A30
  clear A30
  by_cases c4 : t188 = true
  · subst c4
    have H1 : ((impl_countTrees.f k a0 l1).bind fun t189 => (some t189)) = some r := by rw [if_pos rfl] at H; exact H
    clear H
    have H := H1
    clear H1
    replace H := Option.bind_eq_some_iff.mp H
    obtain ⟨t189, A50, H⟩ := H
    replace H : (some t189) = some r := H
    have A5 := Aside0.mk A50
    clear A50
    obtain rfl := Option.some.inj H
    go_enter Try.func7, Try.ntmps7
    go_wp2_with (first | ((with_reducible refine gate_callee (f := 12) rfl ?_); refine goesL_ (some 7) rfl rfl Try.func12 (by kernel_rfl) rfl #[.int .i64 a0, .slice A1 l1.length c1] rfl (by (try simp only [List.map_toArray, List.map_cons, List.map_nil]); first | done | rfl | (simp only [List.length_drop, List.length_take]; rfl)) ?_; (with_reducible refine (impl_CircuitOk.calls k a0 _ _ l1 true _ ?side1 ?side2 A3.out).mono ?_); (case side1 => repeat (first | exact HR1.out | (with_reducible refine Kd.C_alloc ?_ _) | (with_reducible refine Kd.C_drewN ?_ _) | (with_reducible refine Kd.C_drew ?_))); (case side2 => exact HC1.out); rintro e w6 ⟨rfl, hb⟩; refine ⟨_, rfl, ?_⟩; have n0_ := Aside0.mk (below_step (by repeat (first | (with_reducible first | exact HB.out | apply below_alloc | apply pw_below_drewN | apply below_drew1) | exact HB.out)) hb); clear HB; have HB := n0_; clear n0_; (try clear hb); (try clear hb2); (try clear hk); (try clear hi)) | ((with_reducible refine gate_callee (f := 42) rfl ?_); refine goesL_ (some 11) rfl rfl Try.func42 (by kernel_rfl) rfl #[.int .i64 a0, .slice A1 l1.length c1] rfl (by (try simp only [List.map_toArray, List.map_cons, List.map_nil]); first | done | rfl | (simp only [List.length_drop, List.length_take]; rfl)) ?_; (with_reducible refine (impl_countTrees.calls k a0 _ _ l1 t189 _ ?side1 ?side2 A5.out).mono ?_); (case side1 => repeat (first | exact (Kd.C_below HR1.out HB.out) | (with_reducible refine Kd.C_alloc ?_ _) | (with_reducible refine Kd.C_drewN ?_ _) | (with_reducible refine Kd.C_drew ?_))); (case side2 => exact HC1.out); rintro e w7 ⟨rfl, hb⟩; refine ⟨_, rfl, ?_⟩; have n0_ := Aside0.mk (below_step (by repeat (first | (with_reducible first | exact HB.out | apply below_alloc | apply pw_below_drewN | apply below_drew1) | exact HB.out)) hb); clear HB; have HB := n0_; clear n0_; (try clear hb); (try clear hb2); (try clear hk); (try clear hi)))
    go_ret
    exact ⟨by first | rfl | (simp [errW_none, errW_some] <;> rfl) | (simp [*, errW_none, errW_some] <;> rfl), by repeat (first | (with_reducible first | exact HB.out | apply below_alloc | apply pw_below_drewN | apply below_drew1) | exact HB.out)⟩
  · replace c4 := Bool.eq_false_iff.mpr c4
    subst c4
    have H1 : (some (-1)) = some r := by rw [if_neg (show ¬ (false = true) by decide)] at H; exact H
    clear H
    have H := H1
    clear H1
    obtain rfl := Option.some.inj H
    go_enter Try.func7, Try.ntmps7
    go_wp2_with (first | ((with_reducible refine gate_callee (f := 12) rfl ?_); refine goesL_ (some 7) rfl rfl Try.func12 (by kernel_rfl) rfl #[.int .i64 a0, .slice A1 l1.length c1] rfl (by (try simp only [List.map_toArray, List.map_cons, List.map_nil]); first | done | rfl | (simp only [List.length_drop, List.length_take]; rfl)) ?_; (with_reducible refine (impl_CircuitOk.calls k a0 _ _ l1 false _ ?side1 ?side2 A3.out).mono ?_); (case side1 => repeat (first | exact HR1.out | (with_reducible refine Kd.C_alloc ?_ _) | (with_reducible refine Kd.C_drewN ?_ _) | (with_reducible refine Kd.C_drew ?_))); (case side2 => exact HC1.out); rintro e w8 ⟨rfl, hb⟩; refine ⟨_, rfl, ?_⟩; have n0_ := Aside0.mk (below_step (by repeat (first | (with_reducible first | exact HB.out | apply below_alloc | apply pw_below_drewN | apply below_drew1) | exact HB.out)) hb); clear HB; have HB := n0_; clear n0_; (try clear hb); (try clear hb2); (try clear hk); (try clear hi)))
    go_ret
    exact ⟨by first | rfl | (simp [errW_none, errW_some] <;> rfl) | (simp [*, errW_none, errW_some] <;> rfl), by repeat (first | (with_reducible first | exact HB.out | apply below_alloc | apply pw_below_drewN | apply below_drew1) | exact HB.out)⟩

/-! ### impl_potentials: function 43 -/
def impl_potentials.l0 : Nat → List Int → List Int → Int → Int → Option (List Int)
  | 0, _, _, _, _ => none
  | k + 1, s, gs, n, i => if i < n then (if 0 ≤ i then (if i < (gs.length : Int) then (if 0 < (gs.length : Int) then (if (rd gs i) = (rd gs 0) then (if i < (s.length : Int) then (impl_potentials.l0 k (s.set (i : Int).toNat (wrap64 ((rd s i) + 1))) gs n (wrap64 (i + 1))) else (none)) else (impl_potentials.l0 k s gs n (wrap64 (i + 1)))) else (none)) else (none)) else (none)) else (some s)
def impl_potentials.step (n : Int) (s gs : List Int) : Option (List Int) := if 0 < (gs.length : Int) then (if 0 ≤ wrap64 (n - 1) then (if wrap64 (n - 1) < (gs.length : Int) then (if rd gs 0 = rd gs (wrap64 (n - 1)) then some s else impl_potentials.l0 10 s gs (gs.length : Int) 0) else none) else none) else none
def impl_potentials.f (k : Nat) (a0 : Int) (l1 : List (List Int)) : Option (List Int) := if l1.length ≤ 12 then (if 0 ≤ a0 then (if (a0 : Int).toNat ≤ 35184372088832 then cs.l0 (impl_potentials.step a0) k a0 l1 (wrap64 (a0 - 2)) (List.replicate (a0 : Int).toNat 0) 0 else none) else none) else none
theorem impl_potentials.mono : ∀ a0 a1 k, LeO (impl_potentials.f k a0 a1) (impl_potentials.f (k + 1) a0 a1) := by
  intro a0 a1 k
  unfold impl_potentials.f
  exact LeO.ite (LeO.ite (LeO.ite (cs.mono_l _ k _ _ _ _ _) (LeO.refl _)) (LeO.refl _)) (LeO.refl _)
/-- The two boxes and the row. -/
structure PtInv (w : World) (n : Int) (B C : Nat) (v : Value) (W : World) (s : List Int) : Prop where
  hn : W.heap[B]? = some (.cells #[.int .i64 n] 3 (0, 0))
  ho : W.heap[C]? = some (.cells #[v] 27 (0, 0))
  hr : Kd.R (Kd.int .i64) 3 W w.heap.size (fun k => k ≠ B ∧ k ≠ C) v s
  hb : Below w.heap.size w W
theorem PtInv.drewN {w : World} {n : Int} {B C : Nat} {v : Value} {W : World} {s : List Int} (h : PtInv w n B C v W s) (m : Nat) : PtInv w n B C v (W.drewN m) s := ⟨h.hn, h.ho, Kd.R_drewN h.hr m, pw_below_drewN h.hb m⟩
theorem PtInv.below {w : World} {n : Int} {B C : Nat} {v : Value} {W W' : World} {s : List Int} (h : PtInv w n B C v W s) (hb : Below W.heap.size W W') : PtInv w n B C v W' s := ⟨(hb.block _ (lt_of_block h.hn)).trans h.hn, (hb.block _ (lt_of_block h.ho)).trans h.ho, Kd.R_step h.hr (fun k _ hlt => hb.block k hlt), h.hb.trans (hb.mono h.hb.size)⟩
theorem PtInv.start {w w4 : World} {n : Int} {v : Value} {s : List Int} (hn : w4.heap[w.heap.size]? = some (.cells #[.int .i64 n] 3 (0, 0))) (hr : Kd.R (Kd.int .i64) 3 w4 w.heap.size (fun k => k ≠ w.heap.size) v s) (hb : Below w.heap.size w w4) : PtInv w n w.heap.size w4.heap.size v (w4.alloc (.cells #[v] 27 (0, 0))) s := by
  have hlt := lt_of_block hn
  have h2 : Below w4.heap.size w4 (w4.alloc (.cells #[v] 27 (0, 0))) := below_alloc (Below.refl _ _) _
  refine ⟨(h2.block _ hlt).trans hn, by show (w4.heap.push _)[w4.heap.size]? = _; simp, Kd.R_mono (Kd.R_step (Kd.R_bound hr) (fun k _ hlt => h2.block k hlt)) (fun k hk => ⟨hk.1, by have := hk.2.2; omega⟩), hb.trans (h2.mono hb.size)⟩
theorem PtInv.set {w : World} {n : Int} {B C go m cap : Nat} {W : World} {s : List Int} (h : PtInv w n B C (.slice (some ⟨go, 0, none⟩) m cap) W s) (i : Int) (x : Int) : PtInv w n B C (.slice (some ⟨go, 0, none⟩) m cap) (W.setCell ⟨go, i.toNat, none⟩ (.int .i64 x)) (s.set i.toNat x) := by
  have hk := h.hr.1 go rfl
  have hb : w.heap.size ≤ go := by
    by_cases hs : 0 < s.length
    · obtain ⟨g, c, e, hb, _⟩ := Kd.R_form h.hr hs
      injection e with e1 e2 e3
      injection e1 with e1
      injection e1 with e1
      omega
    · exact (Kd.R_bound h.hr).1 go rfl |>.2.1
  exact ⟨(Below.heap_setCell W ⟨go, i.toNat, none⟩ _ B (fun e => hk.1 e.symm)).trans h.hn, (Below.heap_setCell W ⟨go, i.toNat, none⟩ _ C (fun e => hk.2 e.symm)).trans h.ho, (Kd.R_putg h.hr i x).1, below_set h.hb hb⟩
theorem impl_potentials.lt (n : Int) (s s' gs : List Int) (h : impl_potentials.step n s gs = some s') : 0 < (gs.length : Int) ∧ 0 ≤ wrap64 (n - 1) ∧ wrap64 (n - 1) < (gs.length : Int) ∧ (if rd gs 0 = rd gs (wrap64 (n - 1)) then some s else impl_potentials.l0 10 s gs (gs.length : Int) 0) = some s' := by
  unfold impl_potentials.step at h
  by_cases c1 : 0 < (gs.length : Int)
  · by_cases c2 : 0 ≤ wrap64 (n - 1)
    · by_cases c3 : wrap64 (n - 1) < (gs.length : Int)
      · rw [if_pos c1, if_pos c2, if_pos c3] at h
        exact ⟨c1, c2, c3, h⟩
      · rw [if_pos c1, if_pos c2, if_neg c3] at h
        exact absurd h (by simp)
    · rw [if_pos c1, if_neg c2] at h
      exact absurd h (by simp)
  · rw [if_neg c1] at h
    exact absurd h (by simp)
set_option maxHeartbeats 2000000 in
set_option maxRecDepth 100000 in
theorem impl_potentials.lit (w : World) (n : Int) (B C : Nat) (v : Value) (W0 W : World) (s s' : List Int) (A : Option Addr) (c : Nat) (gs : List Int) (h0 : PtInv w n B C v W0 s) (h1 : PtInv w n B C v W s) (hg : Kd.R (Kd.int .i64) 3 W W0.heap.size (fun _ => True) (.slice A gs.length c) gs) (h : impl_potentials.step n s gs = some s') :
    Calls Try.prog 74 #[.slice A gs.length c, .pointer (some ⟨B, 0, none⟩), .pointer (some ⟨C, 0, none⟩)] W fun e w' => e = .returned (.tuple #[]) ∧ PtInv w n B C v w' s' := by
  have HV := Aside0.mk (Kd.R_lt h0.hr)
  obtain ⟨c1, c2, c3, h⟩ := impl_potentials.lt n s s' gs h
  have H := Aside0.mk h
  have HP := Aside0.mk h1
  have HG := Aside0.mk hg
  have hcB := cell_of_one h1.hn
  have C1 := Aside0.mk c1
  clear h h0 h1
  have c1b0 : decide (0 < (gs.length : Int)) = true := decide_eq_true c1
  have c2b0 : decide (0 ≤ wrap64 (n - 1)) = true := decide_eq_true c2
  have c3b0 : decide (wrap64 (n - 1) < (gs.length : Int)) = true := decide_eq_true c3
  obtain ⟨ad, e106, hx106_0⟩ := Kd.at_int (Kd.R_reads' hg).2.2 0 (by omega) c1
  cases e106
  obtain ⟨ad107, e107, hx107_0⟩ := Kd.at_int (Kd.R_reads' hg).2.2 (wrap64 (n - 1)) c2 c3
  cases e107
  (try rw [show ((0 : Int)).toNat = 0 from rfl] at hx106_0)
  (try rw [Addr.add_zero'] at hx106_0)
  have ql : (0 < gs.length) = True := eq_true (by omega)
  clear hg
  obtain ⟨ji, hji⟩ : ∃ ji_ : Int, wrap64 (n - 1) = ji_ := ⟨_, rfl⟩
  have hjiw : (IntKind.i64.wrap (n - 1)) = ji := (i64_w _).trans hji
  simp only [hji] at *
  replace c1 := eq_true c1
  replace c2 := eq_true c2
  replace c3 := eq_true c3
  by_cases c5 : rd gs 0 = rd gs ji
  · have h := H.out
    rw [if_pos c5] at h
    obtain rfl := Option.some.inj h
    have c5b0 : (rd gs 0 == rd gs ji) = true := beq_iff_eq.mpr c5
    clear h H c5
    go_enter Try.func74, Try.ntmps74
    go_wp2
    repeat (go_quiet (fail); try go_wp2)
    (try simp only [Exit.inBlock, Exit.then])
    refine bodyPost_ret (results_none rfl _ _ _) rfl ?_
    exact ⟨rfl, HP.out.drewN _⟩
  · have h := H.out
    rw [if_neg c5] at h
    have H' := Aside0.mk h
    have c5b0 : (rd gs 0 == rd gs ji) = false := beq_eq_false_iff_ne.mpr c5
    clear h H c5
    go_enter Try.func74, Try.ntmps74
    go_wp2
    repeat (go_quiet (fail); try go_wp2)
    go_loopg [17] 10 (fun kq v17 w' => ∃ (s1 : List Int) (x17 : Int), v17 = .int .i64 x17 ∧ Aside0 (impl_potentials.l0 kq s1 gs (gs.length : Int) x17 = some s') ∧ Aside0 (kq ≤ 10) ∧ Aside0 (PtInv w n B C v w' s1) ∧ Aside0 (Kd.R (Kd.int .i64) 3 w' W0.heap.size (fun _ => True) (.slice (some ad) gs.length c) gs))
    case atStart => exact ⟨s, 0, rfl, H', ⟨Nat.le_refl _⟩, ⟨HP.out.drewN _⟩, ⟨Kd.R_drewN HG.out _⟩⟩
    case round =>
      clear H' hcB hx106_0 hx107_0 HP HG
      obtain ⟨s1, x17, rfl, HA, HK1, HP, HG⟩ := hrel
      cases gk with
      | zero => exact absurd HA.out (by simp [impl_potentials.l0])
      | succ k1 =>
        have H := HA.out
        clear HA
        simp only [impl_potentials.l0] at H
        by_cases c6 : x17 < (gs.length : Int)
        · rw [if_pos c6] at H
          have c6b0 : decide (x17 < (gs.length : Int)) = true := decide_eq_true c6
          by_cases c7 : 0 ≤ x17
          · rw [if_pos c7, if_pos c6, if_pos C1.out] at H
            have c7b0 : decide (0 ≤ x17) = true := decide_eq_true c7
            obtain ⟨ad108, e108, hx108_0⟩ := Kd.at_int (Kd.R_reads' HG.out).2.2 x17 c7 c6
            cases e108
            obtain ⟨ad109, e109, hx109_0⟩ := Kd.at_int (Kd.R_reads' HG.out).2.2 0 (by omega) C1.out
            cases e109
            (try rw [show ((0 : Int)).toNat = 0 from rfl] at hx109_0)
            (try rw [Addr.add_zero'] at hx109_0)
            have hcC := cell_of_one HP.out.ho
            replace c6 := eq_true c6
            replace c7 := eq_true c7
            by_cases c8 : rd gs x17 = rd gs 0
            · rw [if_pos c8] at H
              have c8b0 : (rd gs x17 == rd gs 0) = true := beq_iff_eq.mpr c8
              clear c8
              by_cases c9 : x17 < (s1.length : Int)
              · rw [if_pos c9] at H
                have c9b0 : decide (x17 < (s1.length : Int)) = true := decide_eq_true c9
                have H' := Aside0.mk H
                clear H
                obtain ⟨go31, co31, eo31, gb31, gl31, cl31, HG31⟩ := Kd.R_form HP.out.hr (by have := of_decide_eq_true c7b0; omega)
                subst eo31
                obtain ⟨hx31_0, hf31_0⟩ := Kd.R_celln 0 HP.out.hr (x17 : Int) (of_decide_eq_true c7b0) (by exact_mod_cast c9)
                replace hx31_0 : wr.cell? ⟨go31, (x17 : Int).toNat, none⟩ = some (.int .i64 (rd s1 x17)) := hx31_0
                have HV2 := Aside0.mk (HV.out go31 rfl)
                clear gb31 gl31 cl31 HG31
                replace c9 := eq_true c9
                have HPS := Aside0.mk (PtInv.set HP.out x17 (wrap64 ((rd s1 x17) + 1)))
                have HGS := Aside0.mk (Kd.R_mono (Kd.R_kept (Kd.R_bound HG.out) (Kept.setCell (Kept.refl _ (fun k => k = go31)) (p := ⟨go31, (x17 : Int).toNat, none⟩) (.inl rfl) (.int .i64 (wrap64 ((rd s1 x17) + 1)))) (fun k hk e => by have := HV2.out; have := hk.2.1; have e2 : k = go31 := e; omega)) (fun _ hk => hk.1))
                go_wp2_with fail
                go_roundg k1
                case measure => have := HK1.out; omega
                case rel => exact ⟨s1.set (x17 : Int).toNat (wrap64 (rd s1 x17 + 1)), wrap64 (x17 + 1), by first | rfl | (simp; done), H', ⟨by have := HK1.out; omega⟩, HPS, HGS⟩
              · rw [if_neg c9] at H
                exact absurd H (by simp)
            · rw [if_neg c8] at H
              have c8b0 : (rd gs x17 == rd gs 0) = false := beq_eq_false_iff_ne.mpr c8
              clear c8
              have H' := Aside0.mk H
              clear H
              go_wp2
              go_roundg k1
              case measure => have := HK1.out; omega
              case rel => exact ⟨s1, wrap64 (x17 + 1), by first | rfl | (simp; done), H', ⟨by have := HK1.out; omega⟩, HP, HG⟩
          · rw [if_neg c7] at H
            exact absurd H (by simp)
        · rw [if_neg c6] at H
          have c6b0 : decide (x17 < (gs.length : Int)) = false := decide_eq_false c6
          clear c6
          obtain rfl := Option.some.inj H
          go_wp2
          go_end0
          exact ⟨rfl, HP.out⟩
/-- Holds a goal still. -/
def PtMk (p : Prop) : Prop := p
theorem PtMk_of {p : Prop} (h : PtMk p) : p := h
set_option maxHeartbeats 2000000 in
set_option maxRecDepth 100000 in
theorem impl_potentials.calls (k : Nat) (a0 : Int) (A1 : Option Addr) (c1 : Nat) (l1 : List (List Int)) (r : List Int) (w : World) (hr1 : Kd.C (Kd.slice 3 (Kd.int .i64)) w A1 l1.length l1) (hc1 : l1.length ≤ c1) (h : impl_potentials.f k a0 l1 = some r) :
    Calls Try.prog 43 #[.int .i64 a0, .slice A1 l1.length c1] w fun e w' => ∃ v0_ : Value, e = .returned (v0_) ∧ Kd.R (Kd.int .i64) 3 w' w.heap.size (fun _ => True) v0_ r ∧ Below w.heap.size w w' := by
  unfold impl_potentials.f at h
  by_cases hlen : l1.length ≤ 12
  · rw [if_pos hlen] at h
    by_cases h0 : 0 ≤ a0
    · rw [if_pos h0] at h
      by_cases h2 : (a0 : Int).toNat ≤ 35184372088832
      · rw [if_pos h2] at h
        have HCS := Aside0.mk (show ∀ (C : Nat) (v : Value) (W : World), PtInv w a0 w.heap.size C v W (List.replicate (a0 : Int).toNat 0) → Calls Try.prog 72 #[.int .i64 a0, .slice A1 l1.length c1, .int .i64 (wrap64 (a0 - 2)), .func (.func 74) #[] #[.pointer (some ⟨w.heap.size, 0, none⟩), .pointer (some ⟨C, 0, none⟩)]] W fun e w' => e = .returned (.tuple #[]) ∧ PtInv w a0 w.heap.size C v w' r from fun C v W hW =>
          cs.calls (PtInv w a0 w.heap.size C v) (impl_potentials.step a0) 74 #[.pointer (some ⟨w.heap.size, 0, none⟩), .pointer (some ⟨C, 0, none⟩)] (enters_of Try.func74 (by kernel_rfl) rfl) a0 A1 c1 l1 (wrap64 (a0 - 2)) hlen hc1
            (fun W0 W1 s s' A' c' gs i0 i1 ig hs => impl_potentials.lit w a0 w.heap.size C v W0 W1 s s' A' c' gs i0 i1 ig hs)
            (fun _ _ _ hI hb => hI.below hb)
            (fun _ _ hI => Kd.C_below hr1 hI.hb) k _ r W h hW)
        have H2 := Aside0.mk h2
        have H0 := Aside0.mk h0
        clear h hr1 h2 h0
        go_enter Try.func43, Try.ntmps43
        go_wp2_with (first | ((with_reducible refine gate_dst (N := 7) rfl ?_); refine PtMk_of ?_))
        unfold PtMk
        refine Kd.R_make (w0 := w) (Kd.int .i64) w.heap.size 3 rfl (N := 7) rfl 27 _ _ rfl a0 rfl rfl Try.underlying27 (.int .i64 0) 8 info3 rfl (by decide) (by omega) 0 (ok := fun k_ => k_ ≠ w.heap.size) (okp := fun _ => False) rfl (fun _ hk => hk.elim) (by show (w.heap.push _).size ≠ _; simp) H0.out (Nat.le_trans (Nat.mul_le_mul_right _ H2.out) (by omega)) (below_alloc (Below.refl _ _) _) (by show _ ≤ (w.heap.push _).size; simp) ?_
        intro v104 w4 ho5 hb hg_ hnew_
        obtain ⟨A4, c4, rfl⟩ := Kd.R_slice ho5
        rw [List.length_replicate] at ho5
        rw [List.length_replicate]
        have hn4 : w4.heap[w.heap.size]? = some (.cells #[.int .i64 a0] 3 (0, 0)) := (hg_.block _ (by show _ < (w.heap.push _).size; simp) (by simp)).trans (by show (w.heap.push _)[w.heap.size]? = _; simp)
        have HST := Aside0.mk (PtInv.start hn4 ho5 hb)
        have hcB := cell_of_one HST.out.hn
        clear hg_ hnew_ hn4 ho5 hb
        go_wp2_with fail
        refine (HCS.out _ _ _ HST.out).mono ?_
        rintro e w1 ⟨rfl, hi⟩
        have hcell := cell_of_one hi.ho
        have HB := Aside0.mk hi
        clear hi
        go_wp2
        go_ret
        exact ⟨_, rfl, Kd.R_mono HB.out.hr (fun _ _ => trivial), HB.out.hb⟩
      · rw [if_neg h2] at h
        exact absurd h (by simp)
    · rw [if_neg h0] at h
      exact absurd h (by simp)
  · rw [if_neg hlen] at h
    exact absurd h (by simp)

/-! ### impl_PotentialsOf: function 8 -/
def impl_PotentialsOf.f (k : Nat) (a0 : Int) (l1 : List (List Int)) : Option (List Int) := (impl_CircuitOk.f k a0 l1).bind fun t190 => (if t190 = true then ((impl_potentials.f k a0 l1).bind fun t191 => (some t191)) else (some ([] : List Int)))
theorem impl_PotentialsOf.mono : ∀ a0 a1 k, LeO (impl_PotentialsOf.f k a0 a1) (impl_PotentialsOf.f (k + 1) a0 a1) := by
  intro a0 a1 k
  unfold impl_PotentialsOf.f
  repeat' first
      | (with_reducible exact impl_CircuitOk.mono _ _ _)
      | (with_reducible exact impl_potentials.mono _ _ _)
      | (with_reducible exact LeO.refl _)
      | (with_reducible exact LeO.none _)
      | (with_reducible refine LeO.ite ?_ ?_)
      | (with_reducible refine LeO.bind ?_ (fun _ => ?_))
      | exact impl_CircuitOk.mono _ _ _
      | exact impl_potentials.mono _ _ _
      | exact LeO.none _
      | refine LeO.ite ?_ ?_
      | refine LeO.bind ?_ (fun _ => ?_)
set_option maxHeartbeats 8000000 in
set_option maxRecDepth 100000 in
theorem impl_PotentialsOf.calls (k : Nat) (a0 : Int) (A1 : Option Addr) (c1 : Nat) (l1 : List (List Int)) (r : List Int) (w : World) (hr1 : Kd.C (Kd.slice 3 (Kd.int .i64)) w A1 l1.length l1) (hc1 : l1.length ≤ c1) (h : impl_PotentialsOf.f k a0 l1 = some r) :
    Calls Try.prog 8 #[.int .i64 a0, .slice A1 l1.length c1] w fun e w' => ∃ v0_ : Value, e = .returned (v0_) ∧ Kd.R (Kd.int .i64) 3 w' w.heap.size (fun _ => True) v0_ r ∧ Below w.heap.size w w' := by
  have HR1 := Aside0.mk hr1
  have HC1 := Aside0.mk hc1
  clear hr1 hc1
  have HB := Aside0.mk (Below.refl w.heap.size w)
  have H : ((impl_CircuitOk.f k a0 l1).bind fun t190 => (if t190 = true then ((impl_potentials.f k a0 l1).bind fun t191 => (some t191)) else (some ([] : List Int)))) = some r := h
  clear h
  replace H := Option.bind_eq_some_iff.mp H
  obtain ⟨t190, A30, H⟩ := H
  replace H : (if t190 = true then ((impl_potentials.f k a0 l1).bind fun t191 => (some t191)) else (some ([] : List Int))) = some r := H
  have A3 := Aside0.mk A30
  clear A30
  by_cases c4 : t190 = true
  · subst c4
    have H1 : ((impl_potentials.f k a0 l1).bind fun t191 => (some t191)) = some r := by rw [if_pos rfl] at H; exact H
    clear H
    have H := H1
    clear H1
    replace H := Option.bind_eq_some_iff.mp H
    obtain ⟨t191, A50, H⟩ := H
    replace H : (some t191) = some r := H
    have A5 := Aside0.mk A50
    clear A50
    obtain rfl := Option.some.inj H
    go_enter Try.func8, Try.ntmps8
    go_wp2_with (first | ((with_reducible refine gate_callee (f := 12) rfl ?_); refine goesL_ (some 7) rfl rfl Try.func12 (by kernel_rfl) rfl #[.int .i64 a0, .slice A1 l1.length c1] rfl (by (try simp only [List.map_toArray, List.map_cons, List.map_nil]); first | done | rfl | (simp only [List.length_drop, List.length_take]; rfl)) ?_; (with_reducible refine (impl_CircuitOk.calls k a0 _ _ l1 true _ ?side1 ?side2 A3.out).mono ?_); (case side1 => repeat (first | exact HR1.out | (with_reducible refine Kd.C_alloc ?_ _) | (with_reducible refine Kd.C_drewN ?_ _) | (with_reducible refine Kd.C_drew ?_))); (case side2 => exact HC1.out); rintro e w6 ⟨rfl, hb⟩; refine ⟨_, rfl, ?_⟩; have n0_ := Aside0.mk (below_step (by repeat (first | (with_reducible first | exact HB.out | apply below_alloc | apply pw_below_drewN | apply below_drew1) | exact HB.out)) hb); clear HB; have HB := n0_; clear n0_; (try clear hb); (try clear hb2); (try clear hk); (try clear hi)) | ((with_reducible refine gate_callee (f := 43) rfl ?_); refine goesL_ (some 11) rfl rfl Try.func43 (by kernel_rfl) rfl #[.int .i64 a0, .slice A1 l1.length c1] rfl (by (try simp only [List.map_toArray, List.map_cons, List.map_nil]); first | done | rfl | (simp only [List.length_drop, List.length_take]; rfl)) ?_; (with_reducible refine (impl_potentials.calls k a0 _ _ l1 t191 _ ?side1 ?side2 A5.out).mono ?_); (case side1 => repeat (first | exact (Kd.C_below HR1.out HB.out) | (with_reducible refine Kd.C_alloc ?_ _) | (with_reducible refine Kd.C_drewN ?_ _) | (with_reducible refine Kd.C_drew ?_))); (case side2 => exact HC1.out); rintro e w7 ⟨v192, rfl, ho0, hb⟩; refine ⟨_, rfl, ?_⟩; have n0_ := Aside0.mk (Kd.R_lower ho0 (below_size (by repeat (first | (with_reducible first | exact HB.out | apply below_alloc | apply pw_below_drewN | apply below_drew1) | exact HB.out)))); have n1_ := Aside0.mk (below_step (by repeat (first | (with_reducible first | exact HB.out | apply below_alloc | apply pw_below_drewN | apply below_drew1) | exact HB.out)) hb); clear HB; have HO193 := n0_; have HB := n1_; clear n0_ n1_; (try clear hb); (try clear hb2); (try clear hk); (try clear hi); (try clear ho0)))
    go_ret
    exact ⟨_, by first | rfl | (simp [errW_none, errW_some] <;> rfl) | (simp [*, errW_none, errW_some] <;> rfl), by (with_reducible repeat (first | apply Kd.R_alloc | apply Kd.R_drewN | apply Kd.R_drew)); exact HO193.out, by repeat (first | (with_reducible first | exact HB.out | apply below_alloc | apply pw_below_drewN | apply below_drew1) | exact HB.out)⟩
  · replace c4 := Bool.eq_false_iff.mpr c4
    subst c4
    have H1 : (some ([] : List Int)) = some r := by rw [if_neg (show ¬ (false = true) by decide)] at H; exact H
    clear H
    have H := H1
    clear H1
    obtain rfl := Option.some.inj H
    go_enter Try.func8, Try.ntmps8
    go_wp2_with (first | ((with_reducible refine gate_callee (f := 12) rfl ?_); refine goesL_ (some 7) rfl rfl Try.func12 (by kernel_rfl) rfl #[.int .i64 a0, .slice A1 l1.length c1] rfl (by (try simp only [List.map_toArray, List.map_cons, List.map_nil]); first | done | rfl | (simp only [List.length_drop, List.length_take]; rfl)) ?_; (with_reducible refine (impl_CircuitOk.calls k a0 _ _ l1 false _ ?side1 ?side2 A3.out).mono ?_); (case side1 => repeat (first | exact HR1.out | (with_reducible refine Kd.C_alloc ?_ _) | (with_reducible refine Kd.C_drewN ?_ _) | (with_reducible refine Kd.C_drew ?_))); (case side2 => exact HC1.out); rintro e w8 ⟨rfl, hb⟩; refine ⟨_, rfl, ?_⟩; have n0_ := Aside0.mk (below_step (by repeat (first | (with_reducible first | exact HB.out | apply below_alloc | apply pw_below_drewN | apply below_drew1) | exact HB.out)) hb); clear HB; have HB := n0_; clear n0_; (try clear hb); (try clear hb2); (try clear hk); (try clear hi)))
    go_ret
    exact ⟨_, by first | rfl | (simp [errW_none, errW_some] <;> rfl) | (simp [*, errW_none, errW_some] <;> rfl), by first | exact Kd.R_nil _ _ _ _ _ | exact Kd.N_nil _ _ _ _ _ | exact Kd.V_nil _ _ _ _ _ | exact Kd.Q_nil _ _ _ _ _ | exact Kd.S_nil _ _ _ _ _, by repeat (first | (with_reducible first | exact HB.out | apply below_alloc | apply pw_below_drewN | apply below_drew1) | exact HB.out)⟩

end Go.Proofs.Ytadloeklhjoohaa.XFnCurrents
