/- What functions of the program compute, as plain Lean functions, and that Go's calls come to just that: written by wip/tools/xprint.py for the law FnShelves. -/
import Derived.Test.YtadloeklhjoohaaXFnShelvesx0
import Derived.Test.YtadloeklhjoohaaXFnShelvesx1
import Derived.Test.YtadloeklhjoohaaXFnShelvesx3
import Derived.Test.YtadloeklhjoohaaXFnShelvesx4
import Derived.Test.YtadloeklhjoohaaXFnShelvesx5
import Derived.Test.YtadloeklhjoohaaXFnShelvesx6
namespace Go.Proofs.Ytadloeklhjoohaa.XFnShelves
open Go.RowKit Go.Proofs.YtadloeklhjoohaaW.PrintWords Go.Proofs.YtadloeklhjoohaaW.PrintLast Go.Proofs.YtadloeklhjoohaaW.PrintMore
attribute [local go_sem] max2_int min2_int max_two min_two max_three min_three max_four min_four   -- for this text's walks alone
set_option linter.unusedVariables false
set_option linter.unusedSimpArgs false

/-! ### laws_FnShelves: function 4 -/
theorem laws_FnShelves.yield_undef (f : Bool → Option Bool) (g : Option Value → Option Bool) : Go.yielded.match_1 (fun _ => Option Bool) (some undef) f g = g (some undef) := rfl
/-- THE ONE PLAIN STATEMENT of laws_FnShelves. -/
def laws_FnShelves.Pure : Prop := ∀ (l0 : List Int), l0.length ≤ maxLen → l0.length * 1 ≤ 140737488351232 → (∀ x ∈ l0, (Lit.int .u8 x).wf = true) → ∃ k, laws_FnShelves.f k l0 = some true
structure Hole (p : Prop) : Prop where
  out : p
set_option maxHeartbeats 8000000 in
set_option maxRecDepth 100000 in
noncomputable def laws_FnShelves.calls.part0 : PSigma fun P276_ : Prop => Hole P276_ → (∀ (k : Nat) (A0 : Option Addr) (c0 : Nat) (l0 : List Int) (r : Bool) (w : World) (hr0 : Kd.C (Kd.int .u8) w A0 l0.length l0) (hc0 : l0.length ≤ c0) (h : laws_FnShelves.f k l0 = some r) (hT_ : r = true), Calls Try.prog 4 #[.slice A0 l0.length c0] w fun e w' => e = .returned (.bool r) ∧ Below w.heap.size w w') := by
 refine' ⟨_, fun hP276_ => ?_⟩
 rotate_left 1
 intro k A0 c0 l0 r w hr0 hc0 h hT_
 have HT := Aside0.mk hT_
 clear hT_
 have hu44 := Try.underlying44
 have HR0 := Aside0.mk hr0
 have HC0 := Aside0.mk hc0
 clear hr0 hc0
 have HB := Aside0.mk (Below.refl w.heap.size w)
 have H : (if (l0.length : Int) > 1048576 then (some true) else ((spec_MakeStrip.f k l0 0).bind fun bt211 => ((impl_NextShelf.f k bt211.1 bt211.2).bind fun bt215 => ((impl_FirstShelf.f k bt211.1 bt211.2).bind fun bt219 => ((impl_ByHeight.f k bt211.2).bind fun t223 => ((impl_StripBound.f k bt211.1 bt211.2).bind fun t226 => (laws_FnShelves.l0 k bt211.1 bt211.2 bt215.1 bt215.2 bt219.1 bt219.2 t223 t226 0 (bt211.2.length : Int) 0))))))) = some r := h
 clear h
 by_cases c2 : (l0.length : Int) > 1048576
 ·rw [if_pos c2] at H
  have c2b0 : decide (1048576 < (l0.length : Int)) = true := decide_eq_true c2
  have c2b1 : decide (1048576 < l0.length) = true := decide_eq_true (by omega)
  clear c2
  obtain rfl := Option.some.inj H
  go_enter Try.func4, Try.ntmps4
  go_wp2
  go_ret
  exact ⟨by first | rfl | (simp [errW_none, errW_some] <;> rfl) | (simp [*, errW_none, errW_some] <;> rfl), by repeat (first | (with_reducible first | exact HB.out | apply below_alloc | apply pw_below_drewN | apply below_drew1) | exact HB.out)⟩
 ·rw [if_neg c2] at H
  have c2b0 : decide (1048576 < (l0.length : Int)) = false := decide_eq_false c2
  have c2b1 : decide (1048576 < l0.length) = false := decide_eq_false (by omega)
  clear c2
  replace H := Option.bind_eq_some_iff.mp H
  obtain ⟨⟨t211, t212⟩, A30, H⟩ := H
  replace H : ((impl_NextShelf.f k t211 t212).bind fun bt215 => ((impl_FirstShelf.f k t211 t212).bind fun bt219 => ((impl_ByHeight.f k t212).bind fun t223 => ((impl_StripBound.f k t211 t212).bind fun t226 => (laws_FnShelves.l0 k t211 t212 bt215.1 bt215.2 bt219.1 bt219.2 t223 t226 0 (t212.length : Int) 0))))) = some r := H
  have A3 := Aside0.mk A30
  clear A30
  replace H := Option.bind_eq_some_iff.mp H
  obtain ⟨⟨t215, t216⟩, A40, H⟩ := H
  replace H : ((impl_FirstShelf.f k t211 t212).bind fun bt219 => ((impl_ByHeight.f k t212).bind fun t223 => ((impl_StripBound.f k t211 t212).bind fun t226 => (laws_FnShelves.l0 k t211 t212 t215 t216 bt219.1 bt219.2 t223 t226 0 (t212.length : Int) 0)))) = some r := H
  have A4 := Aside0.mk A40
  clear A40
  replace H := Option.bind_eq_some_iff.mp H
  obtain ⟨⟨t219, t220⟩, A50, H⟩ := H
  replace H : ((impl_ByHeight.f k t212).bind fun t223 => ((impl_StripBound.f k t211 t212).bind fun t226 => (laws_FnShelves.l0 k t211 t212 t215 t216 t219 t220 t223 t226 0 (t212.length : Int) 0))) = some r := H
  have A5 := Aside0.mk A50
  clear A50
  replace H := Option.bind_eq_some_iff.mp H
  obtain ⟨t223, A60, H⟩ := H
  replace H : ((impl_StripBound.f k t211 t212).bind fun t226 => (laws_FnShelves.l0 k t211 t212 t215 t216 t219 t220 t223 t226 0 (t212.length : Int) 0)) = some r := H
  have A6 := Aside0.mk A60
  clear A60
  replace H := Option.bind_eq_some_iff.mp H
  obtain ⟨t226, A70, H⟩ := H
  replace H : (laws_FnShelves.l0 k t211 t212 t215 t216 t219 t220 t223 t226 0 (t212.length : Int) 0) = some r := H
  have A7 := Aside0.mk A70
  clear A70
  have H' := Aside0.mk H
  clear H
  go_enter Try.func4, Try.ntmps4
  go_wp2_with (first | ((with_reducible refine gate_callee (f := 16) rfl ?_); refine goesL_ (some 28) rfl rfl Try.func16 (by kernel_rfl) rfl #[.slice A0 l0.length c0, .int .i64 0] rfl (by (try simp only [List.map_toArray, List.map_cons, List.map_nil]); first | done | rfl | (simp only [List.length_drop, List.length_take]; rfl)) ?_; (with_reducible refine (spec_MakeStrip.calls k _ _ l0 0 t211 t212 _ ?side1 ?side2 A3.out).mono ?_); (case side1 => repeat (first | exact HR0.out | (with_reducible refine Kd.C_alloc ?_ _) | (with_reducible refine Kd.C_drewN ?_ _) | (with_reducible refine Kd.C_drew ?_))); (case side2 => exact HC0.out); rintro e w8 ⟨v213, rfl, ho0, hb⟩; refine ⟨_, rfl, ?_⟩; have n0_ := Aside0.mk (Kd.N_lower (Kd.N_mono (ok' := fun k_ => True) (Kd.S_N (Kd.S_bound ho0)) (fun k_ hk_ => trivial)) (below_size (by repeat (first | (with_reducible first | exact HB.out | apply below_alloc | apply pw_below_drewN | apply below_drew1) | exact HB.out)))); have n1_ := Aside0.mk (below_step (by repeat (first | (with_reducible first | exact HB.out | apply below_alloc | apply pw_below_drewN | apply below_drew1) | exact HB.out)) hb); clear HB; have HO214 := n0_; have HB := n1_; clear n0_ n1_; (try clear hb); (try clear hb2); (try clear hk); (try clear hi); (try clear ho0); obtain ⟨Ao9, co9, eo9⟩ := Kd.N_slice HO214.out; subst eo9) | ((with_reducible refine gate_callee (f := 17) rfl ?_); refine goesL_ (some 34) rfl rfl Try.func17 (by kernel_rfl) rfl #[.int .i64 t211, .slice Ao9 t212.length co9] rfl (by (try simp only [List.map_toArray, List.map_cons, List.map_nil]); first | done | rfl | (simp only [List.length_drop, List.length_take]; rfl)) ?_; (with_reducible refine (impl_NextShelf.calls k t211 _ _ t212 t215 t216 _ ?side1 ?side2 A4.out).mono ?_); (case side1 => repeat (first | exact (Kd.N_reads' HO214.out).2.2 | (with_reducible refine Kd.C_alloc ?_ _) | (with_reducible refine Kd.C_drewN ?_ _) | (with_reducible refine Kd.C_drew ?_))); (case side2 => exact (Kd.N_reads' HO214.out).2.1); rintro e w10 ⟨v217, rfl, ho0, hb⟩; refine ⟨_, rfl, ?_⟩; have n0_ := Aside0.mk (Kd.N_elder' (by (with_reducible repeat (first | apply Kd.N_alloc | apply Kd.N_drewN | apply Kd.N_drew)); exact HO214.out) (Kd.R_base ho0) hb); have n1_ := Aside0.mk (Kd.R_lower ho0 (below_size (by repeat (first | (with_reducible first | exact HB.out | apply below_alloc | apply pw_below_drewN | apply below_drew1) | exact HB.out)))); have n2_ := Aside0.mk (below_step (by repeat (first | (with_reducible first | exact HB.out | apply below_alloc | apply pw_below_drewN | apply below_drew1) | exact HB.out)) hb); clear HO214; clear HB; have HO214 := n0_; have HO218 := n1_; have HB := n2_; clear n0_ n1_ n2_; (try clear hb); (try clear hb2); (try clear hk); (try clear hi); (try clear ho0)) | ((with_reducible refine gate_callee (f := 18) rfl ?_); refine goesL_ (some 40) rfl rfl Try.func18 (by kernel_rfl) rfl #[.int .i64 t211, .slice Ao9 t212.length co9] rfl (by (try simp only [List.map_toArray, List.map_cons, List.map_nil]); first | done | rfl | (simp only [List.length_drop, List.length_take]; rfl)) ?_; (with_reducible refine (impl_FirstShelf.calls k t211 _ _ t212 t219 t220 _ ?side1 ?side2 A5.out).mono ?_); (case side1 => repeat (first | exact (Kd.N_reads' HO214.out).2.2 | (with_reducible refine Kd.C_alloc ?_ _) | (with_reducible refine Kd.C_drewN ?_ _) | (with_reducible refine Kd.C_drew ?_))); (case side2 => exact (Kd.N_reads' HO214.out).2.1); rintro e w11 ⟨v221, rfl, ho0, hb⟩; refine ⟨_, rfl, ?_⟩; have n0_ := Aside0.mk (Kd.N_elder' (by (with_reducible repeat (first | apply Kd.N_alloc | apply Kd.N_drewN | apply Kd.N_drew)); exact HO214.out) (Kd.R_base ho0) hb); have n1_ := Aside0.mk (Kd.R_elder' (by (with_reducible repeat (first | apply Kd.R_alloc | apply Kd.R_drewN | apply Kd.R_drew)); exact HO218.out) (Kd.R_base ho0) hb); have n2_ := Aside0.mk (Kd.R_lower (Kd.R_new' ho0 (Kd.R_lt (by (with_reducible repeat (first | apply Kd.R_alloc | apply Kd.R_drewN | apply Kd.R_drew)); exact HO218.out))) (below_size (by repeat (first | (with_reducible first | exact HB.out | apply below_alloc | apply pw_below_drewN | apply below_drew1) | exact HB.out)))); have n3_ := Aside0.mk (below_step (by repeat (first | (with_reducible first | exact HB.out | apply below_alloc | apply pw_below_drewN | apply below_drew1) | exact HB.out)) hb); clear HO214; clear HO218; clear HB; have HO214 := n0_; have HO218 := n1_; have HO222 := n2_; have HB := n3_; clear n0_ n1_ n2_ n3_; (try clear hb); (try clear hb2); (try clear hk); (try clear hi); (try clear ho0)) | ((with_reducible refine gate_callee (f := 19) rfl ?_); refine goesL_ (some 44) rfl rfl Try.func19 (by kernel_rfl) rfl #[.slice Ao9 t212.length co9] rfl (by (try simp only [List.map_toArray, List.map_cons, List.map_nil]); first | done | rfl | (simp only [List.length_drop, List.length_take]; rfl)) ?_; (with_reducible refine (impl_ByHeight.calls k _ _ t212 t223 _ ?side1 ?side2 A6.out).mono ?_); (case side1 => repeat (first | exact (Kd.N_reads' HO214.out).2.2 | (with_reducible refine Kd.C_alloc ?_ _) | (with_reducible refine Kd.C_drewN ?_ _) | (with_reducible refine Kd.C_drew ?_))); (case side2 => exact (Kd.N_reads' HO214.out).2.1); rintro e w12 ⟨v224, rfl, ho0, hb⟩; refine ⟨_, rfl, ?_⟩; have n0_ := Aside0.mk (Kd.N_elder' (by (with_reducible repeat (first | apply Kd.N_alloc | apply Kd.N_drewN | apply Kd.N_drew)); exact HO214.out) (Kd.R_base ho0) hb); have n1_ := Aside0.mk (Kd.R_below (by (with_reducible repeat (first | apply Kd.R_alloc | apply Kd.R_drewN | apply Kd.R_drew)); exact HO218.out) hb); have n2_ := Aside0.mk (Kd.R_below (by (with_reducible repeat (first | apply Kd.R_alloc | apply Kd.R_drewN | apply Kd.R_drew)); exact HO222.out) hb); have n3_ := Aside0.mk (Kd.R_lower ho0 (below_size (by repeat (first | (with_reducible first | exact HB.out | apply below_alloc | apply pw_below_drewN | apply below_drew1) | exact HB.out)))); have n4_ := Aside0.mk (below_step (by repeat (first | (with_reducible first | exact HB.out | apply below_alloc | apply pw_below_drewN | apply below_drew1) | exact HB.out)) hb); clear HO214; clear HO218; clear HO222; clear HB; have HO214 := n0_; have HO218 := n1_; have HO222 := n2_; have HO225 := n3_; have HB := n4_; clear n0_ n1_ n2_ n3_ n4_; (try clear hb); (try clear hb2); (try clear hk); (try clear hi); (try clear ho0)) | ((with_reducible refine gate_callee (f := 20) rfl ?_); refine goesL_ (some 47) rfl rfl Try.func20 (by kernel_rfl) rfl #[.int .i64 t211, .slice Ao9 t212.length co9] rfl (by (try simp only [List.map_toArray, List.map_cons, List.map_nil]); first | done | rfl | (simp only [List.length_drop, List.length_take]; rfl)) ?_; (with_reducible refine (impl_StripBound.calls k t211 _ _ t212 t226 _ ?side1 ?side2 A7.out).mono ?_); (case side1 => repeat (first | exact (Kd.N_reads' HO214.out).2.2 | (with_reducible refine Kd.C_alloc ?_ _) | (with_reducible refine Kd.C_drewN ?_ _) | (with_reducible refine Kd.C_drew ?_))); (case side2 => exact (Kd.N_reads' HO214.out).2.1); rintro e w13 ⟨rfl, hb⟩; refine ⟨_, rfl, ?_⟩; have n0_ := Aside0.mk (Kd.N_below (by (with_reducible repeat (first | apply Kd.N_alloc | apply Kd.N_drewN | apply Kd.N_drew)); exact HO214.out) hb); have n1_ := Aside0.mk (Kd.R_below (by (with_reducible repeat (first | apply Kd.R_alloc | apply Kd.R_drewN | apply Kd.R_drew)); exact HO218.out) hb); have n2_ := Aside0.mk (Kd.R_below (by (with_reducible repeat (first | apply Kd.R_alloc | apply Kd.R_drewN | apply Kd.R_drew)); exact HO222.out) hb); have n3_ := Aside0.mk (Kd.R_below (by (with_reducible repeat (first | apply Kd.R_alloc | apply Kd.R_drewN | apply Kd.R_drew)); exact HO225.out) hb); have n4_ := Aside0.mk (below_step (by repeat (first | (with_reducible first | exact HB.out | apply below_alloc | apply pw_below_drewN | apply below_drew1) | exact HB.out)) hb); clear HO214; clear HO218; clear HO222; clear HO225; clear HB; have HO214 := n0_; have HO218 := n1_; have HO222 := n2_; have HO225 := n3_; have HB := n4_; clear n0_ n1_ n2_ n3_ n4_; (try clear hb); (try clear hb2); (try clear hk); (try clear hi)))
  go_loopg [11, 50] k (fun kq v11 v50 w' => ∃ (x11_1 : Int) (x50_1 : Int), v11 = .int .i64 x11_1 ∧ v50 = .int .i64 x50_1 ∧ Aside0 (laws_FnShelves.l0 kq t211 t212 t215 t216 t219 t220 t223 t226 x11_1 (t212.length : Int) x50_1 = some r) ∧ Aside0 (kq ≤ k) ∧ Aside0 (Kd.N (Kd.slice 3 (Kd.int .i64)) 27 w' w.heap.size (fun k_ => some k_ ≠ (v217 : Value).ownBlock ∧ some k_ ≠ (v221 : Value).ownBlock ∧ some k_ ≠ (v224 : Value).ownBlock) (.slice Ao9 t212.length co9) t212) ∧ Aside0 (Kd.R k44 44 w' w.heap.size (fun k_ => some k_ ≠ (v221 : Value).ownBlock) v217 t215) ∧ Aside0 (Kd.R k44 44 w' w.heap.size (fun k_ => some k_ ≠ (v217 : Value).ownBlock) v221 t219) ∧ Aside0 (Kd.R (Kd.int .i64) 3 w' w.heap.size (fun _ => True) v224 t223) ∧ Aside0 (Below w.heap.size w w'))
  case atStart => exact ⟨(0), (0), (by first | rfl | (simp; done) | (simp [*]; done)), (by first | rfl | (simp; done) | (simp [*]; done)), H', ⟨Nat.le_refl _⟩, ⟨by (with_reducible repeat (first | apply Kd.N_alloc | apply Kd.N_drewN | apply Kd.N_drew)); exact Kd.N_mono HO214.out (fun _ hk => ⟨hk.1.1.2, ⟨hk.1.2, hk.2⟩⟩)⟩, ⟨by (with_reducible repeat (first | apply Kd.R_alloc | apply Kd.R_drewN | apply Kd.R_drew)); exact Kd.R_mono HO218.out (fun _ hk => hk.2)⟩, ⟨by (with_reducible repeat (first | apply Kd.R_alloc | apply Kd.R_drewN | apply Kd.R_drew)); exact Kd.R_mono HO222.out (fun _ hk => hk.2)⟩, ⟨by (with_reducible repeat (first | apply Kd.R_alloc | apply Kd.R_drewN | apply Kd.R_drew)); exact HO225.out⟩, ⟨by repeat (first | (with_reducible first | exact HB.out | apply below_alloc | apply pw_below_drewN | apply below_drew1) | exact HB.out)⟩⟩
  case round =>
   as_aux_lemma =>
    clear H'
    (try clear c1); (try clear c2); (try clear c2b0); (try clear c2b1); (try clear p2); (try clear c4)
    obtain ⟨x11_1, x50_1, rfl, rfl, HA, HK1, HO_4, HO_5, HO_7, HO_9, HB⟩ := hrel
    cases gk with
    | zero => exact absurd HA.out (by simp [laws_FnShelves.l0])
    | succ k1 =>
     have H := HA.out
     clear HA
     simp only [laws_FnShelves.l0] at H
     by_cases c14 : x50_1 < (t212.length : Int)
     ·rw [if_pos c14] at H
      have c14b0 : decide (x50_1 < (t212.length : Int)) = true := decide_eq_true c14
      clear c14
      by_cases c15 : 0 ≤ x50_1
      rotate_left
      ·rw [if_neg c15] at H
       exact absurd H (by simp)
      rw [if_pos c15] at H
      have c15b0 : decide (0 ≤ x50_1) = true := decide_eq_true c15
      clear c15
      by_cases c16 : x50_1 < (t212.length : Int)
      rotate_left
      ·rw [if_neg c16] at H
       exact absurd H (by simp)
      rw [if_pos c16] at H
      have c16b0 : decide (x50_1 < (t212.length : Int)) = true := decide_eq_true c16
      clear c16
      by_cases c17 : 1 < ((rd_L3 t212 x50_1).length : Int)
      rotate_left
      ·rw [if_neg c17] at H
       exact absurd H (by simp)
      rw [if_pos c17] at H
      have c17b0 : decide (1 < ((rd_L3 t212 x50_1).length : Int)) = true := decide_eq_true c17
      have c17b1 : decide (1 < (rd_L3 t212 x50_1).length) = true := decide_eq_true (by omega)
      clear c17
      obtain ⟨ji18, hji18⟩ : ∃ j_ : Int, (mx x11_1 (rd (rd_L3 t212 x50_1) 1)) = j_ := ⟨_, rfl⟩
      replace H : (laws_FnShelves.l0 k1 t211 t212 t215 t216 t219 t220 t223 t226 ji18 (t212.length : Int) (wrap64 (x50_1 + 1))) = some r := by first | (rw [hji18] at H; exact H) | (simp only [hji18] at H ⊢; exact H)
      have hji18_ : (if x11_1 < (rd (rd_L3 t212 x50_1) 1) then (rd (rd_L3 t212 x50_1) 1) else x11_1) = ji18 := hji18
      have H' := Aside0.mk H
      clear H
      have p227 : 0 ≤ (x50_1 : Int) := of_decide_eq_true (by first | (with_reducible assumption) | assumption)
      have q227 : x50_1 < (t212.length : Int) := of_decide_eq_true (by first | (with_reducible assumption) | assumption)
      obtain ⟨ad227, A227_0, c227_0, e227, hx227_0, hl227_0, hi227_0⟩ := at_L3 (Kd.N_reads' HO_4.out).2.2 x50_1 p227 q227
      cases e227
      obtain ⟨ce227, hce227, hMe227, hcc227⟩ := Kd.N_get HO_4.out [] x50_1 p227 (by first | exact q227 | exact of_decide_eq_true (by first | (with_reducible assumption) | assumption) | (have e_ := (Kd.N_reads' HO_4.out).1; omega))
      obtain ⟨ua227_0, uc227_0, rfl, ul227_0, ge227_0⟩ := Kd.FK_slice_open hMe227
      have hv227_0 := hcc227 0 _ rfl
      rw [Nat.add_zero, show ((Kd.slice 3 (Kd.int .i64))).sz = 1 from rfl, Nat.mul_one] at hv227_0
      replace hv227_0 := Option.some.inj (hv227_0.symm.trans hx227_0)
      injection hv227_0 with hva_ hvn_ hvc_
      rw [hva_] at ge227_0
      rw [hvc_] at ul227_0
      have HL227_0 := Aside0.mk (show Kd.V (Kd.int .i64) 3 _ w.heap.size _ _ (rd_L3 t212 x50_1) from Kd.V_mk ul227_0 ge227_0)
      clear hva_ hvn_ hvc_ ge227_0 ul227_0
      clear hcc227 hce227
      have HR227_0 := Aside0.mk hi227_0
      have HC227_0 := Aside0.mk hl227_0
      clear hi227_0 hl227_0
      replace p227 := eq_true p227
      replace q227 := eq_true q227
      have p228 : 0 ≤ (1 : Int) := (by omega)
      have q228 : 1 < ((rd_L3 t212 x50_1).length : Int) := of_decide_eq_true (by first | (with_reducible assumption) | assumption)
      obtain ⟨ad228, e228, hx228_0⟩ := Kd.at_int (by repeat (first | (with_reducible exact HR227_0.out) | (with_reducible refine Kd.C_alloc ?_ _) | (with_reducible refine Kd.C_drewN ?_ _) | (with_reducible refine Kd.C_drew ?_) | exact HR227_0.out)) 1 p228 q228
      cases e228
      (try simp only [show (1 : Int).toNat = 1 from rfl, Nat.reduceMul, Nat.reduceEqDiff, Go.Addr.add, ↓reduceIte] at hx228_0)
      have qi228 : (1 < (rd_L3 t212 x50_1).length) = True := eq_true (by omega)
      (try rw [show ((1 : Int)).toNat = 1 from rfl] at hx228_0)
      replace p228 := eq_true p228
      replace q228 := eq_true q228
      go_wp2
      go_roundg k1
      case measure => have := HK1.out; omega
      case rel => exact ⟨(ji18), (wrap64 (x50_1 + 1)), (by first | rfl | (simp; done) | (simp only [← hji18] <;> (first | rfl | simp)) | (simp [*]; done)), (by first | rfl | (simp; done) | (simp [*]; done)), H', ⟨by have := HK1.out; omega⟩, ⟨by (with_reducible repeat (first | apply Kd.N_alloc | apply Kd.N_drewN | apply Kd.N_drew)); exact HO_4.out⟩, ⟨by (with_reducible repeat (first | apply Kd.R_alloc | apply Kd.R_drewN | apply Kd.R_drew)); exact HO_5.out⟩, ⟨by (with_reducible repeat (first | apply Kd.R_alloc | apply Kd.R_drewN | apply Kd.R_drew)); exact HO_7.out⟩, ⟨by (with_reducible repeat (first | apply Kd.R_alloc | apply Kd.R_drewN | apply Kd.R_drew)); exact HO_9.out⟩, ⟨by repeat (first | (with_reducible first | exact HB.out | apply below_alloc | apply pw_below_drewN | apply below_drew1) | exact HB.out)⟩⟩
     ·rw [if_neg c14] at H
      have c14b0 : decide (x50_1 < (t212.length : Int)) = false := decide_eq_false c14
      clear c14
      have HC19 := Aside0.mk H
      clear H
      go_upto_region 14 with (fail)
      go_cut [130] (fun v130 wc => ∃ (kq : Nat) (x130_18 : Bool), v130 = .bool x130_18 ∧ Aside0 (laws_FnShelves.j1 kq t211 t212 t215 t216 t219 t220 t223 x130_18 = some r) ∧ Aside0 (kq ≤ k1) ∧ Aside0 (Kd.N (Kd.slice 3 (Kd.int .i64)) 27 wc w.heap.size (fun k_ => some k_ ≠ (v217 : Value).ownBlock ∧ some k_ ≠ (v221 : Value).ownBlock ∧ some k_ ≠ (v224 : Value).ownBlock) (.slice Ao9 t212.length co9) t212) ∧ Aside0 (Kd.R k44 44 wc w.heap.size (fun k_ => some k_ ≠ (v221 : Value).ownBlock) v217 t215) ∧ Aside0 (Kd.R k44 44 wc w.heap.size (fun k_ => some k_ ≠ (v217 : Value).ownBlock) v221 t219) ∧ Aside0 (Kd.R (Kd.int .i64) 3 wc w.heap.size (fun _ => True) v224 t223) ∧ Aside0 (Below w.heap.size w wc))
      case first =>
       as_aux_lemma =>
        have H := HC19.out
        clear HC19
        replace H := Option.bind_eq_some_iff.mp H
        obtain ⟨t229, A200, H⟩ := H
        replace H : (if t229 = true then (if (t215.length : Int) = (t212.length : Int) then (if (t219.length : Int) = (t212.length : Int) then (if (t223.length : Int) = (t212.length : Int) then (if t220 < t226 then (laws_FnShelves.j1 k1 t211 t212 t215 t216 t219 t220 t223 true) else (if t220 > t216 then (laws_FnShelves.j1 k1 t211 t212 t215 t216 t219 t220 t223 true) else ((laws_area.f k1 t212).bind fun t230 => (if (wrap64 (t216 * t211)) > (wrap64 ((wrap64 (x11_1 * t211)) + (wrap64 (2 * t230)))) then (laws_FnShelves.j1 k1 t211 t212 t215 t216 t219 t220 t223 true) else ((impl_DoOverlap.f k1 t212 t215).bind fun t231 => (if t231 = true then (laws_FnShelves.j1 k1 t211 t212 t215 t216 t219 t220 t223 true) else ((impl_DoOverlap.f k1 t212 t219).bind fun t232 => (if t232 = true then (laws_FnShelves.j1 k1 t211 t212 t215 t216 t219 t220 t223 true) else (if t226 < x11_1 then (laws_FnShelves.j1 k1 t211 t212 t215 t216 t219 t220 t223 true) else ((laws_area.f k1 t212).bind fun t233 => (laws_FnShelves.j1 k1 t211 t212 t215 t216 t219 t220 t223 (decide ((wrap64 (t226 * t211)) < t233))))))))))))) else (laws_FnShelves.j1 k1 t211 t212 t215 t216 t219 t220 t223 true)) else (laws_FnShelves.j1 k1 t211 t212 t215 t216 t219 t220 t223 true)) else (laws_FnShelves.j1 k1 t211 t212 t215 t216 t219 t220 t223 true)) else (laws_FnShelves.j1 k1 t211 t212 t215 t216 t219 t220 t223 true)) = some r := H
        have A20 := Aside0.mk A200
        clear A200
        by_cases c21 : t229 = true
        rotate_left
        ·replace c21 := Bool.eq_false_iff.mpr c21
         subst c21
         have H1 : (laws_FnShelves.j1 k1 t211 t212 t215 t216 t219 t220 t223 true) = some r := by rw [if_neg (show ¬ (false = true) by decide)] at H; exact H
         exact (laws_FnShelves.j1_dead HT H1).elim
        subst c21
        have H1 : (if (t215.length : Int) = (t212.length : Int) then (if (t219.length : Int) = (t212.length : Int) then (if (t223.length : Int) = (t212.length : Int) then (if t220 < t226 then (laws_FnShelves.j1 k1 t211 t212 t215 t216 t219 t220 t223 true) else (if t220 > t216 then (laws_FnShelves.j1 k1 t211 t212 t215 t216 t219 t220 t223 true) else ((laws_area.f k1 t212).bind fun t230 => (if (wrap64 (t216 * t211)) > (wrap64 ((wrap64 (x11_1 * t211)) + (wrap64 (2 * t230)))) then (laws_FnShelves.j1 k1 t211 t212 t215 t216 t219 t220 t223 true) else ((impl_DoOverlap.f k1 t212 t215).bind fun t231 => (if t231 = true then (laws_FnShelves.j1 k1 t211 t212 t215 t216 t219 t220 t223 true) else ((impl_DoOverlap.f k1 t212 t219).bind fun t232 => (if t232 = true then (laws_FnShelves.j1 k1 t211 t212 t215 t216 t219 t220 t223 true) else (if t226 < x11_1 then (laws_FnShelves.j1 k1 t211 t212 t215 t216 t219 t220 t223 true) else ((laws_area.f k1 t212).bind fun t233 => (laws_FnShelves.j1 k1 t211 t212 t215 t216 t219 t220 t223 (decide ((wrap64 (t226 * t211)) < t233))))))))))))) else (laws_FnShelves.j1 k1 t211 t212 t215 t216 t219 t220 t223 true)) else (laws_FnShelves.j1 k1 t211 t212 t215 t216 t219 t220 t223 true)) else (laws_FnShelves.j1 k1 t211 t212 t215 t216 t219 t220 t223 true)) = some r := by rw [if_pos rfl] at H; exact H
        clear H
        have H := H1
        clear H1
        by_cases c22 : (t215.length : Int) = (t212.length : Int)
        rotate_left
        ·rw [if_neg c22] at H
         exact (laws_FnShelves.j1_dead HT H).elim
        rw [if_pos c22] at H
        have c22b0 : ((t215.length : Int) == (t212.length : Int)) = true := beq_iff_eq.mpr c22
        have c22b1 : ((t215.length : Int) != (t212.length : Int)) = false := bne_eq_false_iff_eq.mpr c22
        have c22b2 : (t215.length == t212.length) = true := by first | simpa using c22 | (simp at c22 ⊢; omega)
        clear c22
        (first | rw [c22b0] | (simp only [i64_w, i32_w]; rw [c22b0]) | skip)
        by_cases c23 : (t219.length : Int) = (t212.length : Int)
        rotate_left
        ·rw [if_neg c23] at H
         exact (laws_FnShelves.j1_dead HT H).elim
        rw [if_pos c23] at H
        have c23b0 : ((t219.length : Int) == (t212.length : Int)) = true := beq_iff_eq.mpr c23
        have c23b1 : ((t219.length : Int) != (t212.length : Int)) = false := bne_eq_false_iff_eq.mpr c23
        have c23b2 : (t219.length == t212.length) = true := by first | simpa using c23 | (simp at c23 ⊢; omega)
        clear c23
        by_cases c24 : (t223.length : Int) = (t212.length : Int)
        rotate_left
        ·rw [if_neg c24] at H
         exact (laws_FnShelves.j1_dead HT H).elim
        rw [if_pos c24] at H
        have c24b0 : ((t223.length : Int) == (t212.length : Int)) = true := beq_iff_eq.mpr c24
        have c24b1 : ((t223.length : Int) != (t212.length : Int)) = false := bne_eq_false_iff_eq.mpr c24
        have c24b2 : (t223.length == t212.length) = true := by first | simpa using c24 | (simp at c24 ⊢; omega)
        clear c24
        by_cases c25 : t220 < t226
        ·rw [if_pos c25] at H
         exact (laws_FnShelves.j1_dead HT H).elim
        rw [if_neg c25] at H
        have c25b0 : decide (t220 < t226) = false := decide_eq_false c25
        clear c25
        by_cases c30 : t220 > t216
        ·rw [if_pos c30] at H
         exact (laws_FnShelves.j1_dead HT H).elim
        rw [if_neg c30] at H
        have c30b0 : decide (t216 < t220) = false := decide_eq_false c30
        clear c30
        replace H := Option.bind_eq_some_iff.mp H
        obtain ⟨t230, A350, H⟩ := H
        replace H : (if (wrap64 (t216 * t211)) > (wrap64 ((wrap64 (x11_1 * t211)) + (wrap64 (2 * t230)))) then (laws_FnShelves.j1 k1 t211 t212 t215 t216 t219 t220 t223 true) else ((impl_DoOverlap.f k1 t212 t215).bind fun t231 => (if t231 = true then (laws_FnShelves.j1 k1 t211 t212 t215 t216 t219 t220 t223 true) else ((impl_DoOverlap.f k1 t212 t219).bind fun t232 => (if t232 = true then (laws_FnShelves.j1 k1 t211 t212 t215 t216 t219 t220 t223 true) else (if t226 < x11_1 then (laws_FnShelves.j1 k1 t211 t212 t215 t216 t219 t220 t223 true) else ((laws_area.f k1 t212).bind fun t233 => (laws_FnShelves.j1 k1 t211 t212 t215 t216 t219 t220 t223 (decide ((wrap64 (t226 * t211)) < t233)))))))))) = some r := H
        have A35 := Aside0.mk A350
        clear A350
        by_cases c36 : (wrap64 (t216 * t211)) > (wrap64 ((wrap64 (x11_1 * t211)) + (wrap64 (2 * t230))))
        ·rw [if_pos c36] at H
         exact (laws_FnShelves.j1_dead HT H).elim
        rw [if_neg c36] at H
        have c36b0 : decide ((wrap64 ((wrap64 (x11_1 * t211)) + (wrap64 (2 * t230)))) < (wrap64 (t216 * t211))) = false := decide_eq_false c36
        clear c36
        replace H := Option.bind_eq_some_iff.mp H
        obtain ⟨t231, A410, H⟩ := H
        replace H : (if t231 = true then (laws_FnShelves.j1 k1 t211 t212 t215 t216 t219 t220 t223 true) else ((impl_DoOverlap.f k1 t212 t219).bind fun t232 => (if t232 = true then (laws_FnShelves.j1 k1 t211 t212 t215 t216 t219 t220 t223 true) else (if t226 < x11_1 then (laws_FnShelves.j1 k1 t211 t212 t215 t216 t219 t220 t223 true) else ((laws_area.f k1 t212).bind fun t233 => (laws_FnShelves.j1 k1 t211 t212 t215 t216 t219 t220 t223 (decide ((wrap64 (t226 * t211)) < t233)))))))) = some r := H
        have A41 := Aside0.mk A410
        clear A410
        by_cases c42 : t231 = true
        ·subst c42
         have H1 : (laws_FnShelves.j1 k1 t211 t212 t215 t216 t219 t220 t223 true) = some r := by rw [if_pos rfl] at H; exact H
         exact (laws_FnShelves.j1_dead HT H1).elim
        replace c42 := Bool.eq_false_iff.mpr c42
        subst c42
        have H1 : ((impl_DoOverlap.f k1 t212 t219).bind fun t232 => (if t232 = true then (laws_FnShelves.j1 k1 t211 t212 t215 t216 t219 t220 t223 true) else (if t226 < x11_1 then (laws_FnShelves.j1 k1 t211 t212 t215 t216 t219 t220 t223 true) else ((laws_area.f k1 t212).bind fun t233 => (laws_FnShelves.j1 k1 t211 t212 t215 t216 t219 t220 t223 (decide ((wrap64 (t226 * t211)) < t233))))))) = some r := by rw [if_neg (show ¬ (false = true) by decide)] at H; exact H
        clear H
        have H := H1
        clear H1
        replace H := Option.bind_eq_some_iff.mp H
        obtain ⟨t232, A480, H⟩ := H
        replace H : (if t232 = true then (laws_FnShelves.j1 k1 t211 t212 t215 t216 t219 t220 t223 true) else (if t226 < x11_1 then (laws_FnShelves.j1 k1 t211 t212 t215 t216 t219 t220 t223 true) else ((laws_area.f k1 t212).bind fun t233 => (laws_FnShelves.j1 k1 t211 t212 t215 t216 t219 t220 t223 (decide ((wrap64 (t226 * t211)) < t233)))))) = some r := H
        have A48 := Aside0.mk A480
        clear A480
        by_cases c49 : t232 = true
        ·subst c49
         have H1 : (laws_FnShelves.j1 k1 t211 t212 t215 t216 t219 t220 t223 true) = some r := by rw [if_pos rfl] at H; exact H
         exact (laws_FnShelves.j1_dead HT H1).elim
        replace c49 := Bool.eq_false_iff.mpr c49
        subst c49
        have H1 : (if t226 < x11_1 then (laws_FnShelves.j1 k1 t211 t212 t215 t216 t219 t220 t223 true) else ((laws_area.f k1 t212).bind fun t233 => (laws_FnShelves.j1 k1 t211 t212 t215 t216 t219 t220 t223 (decide ((wrap64 (t226 * t211)) < t233))))) = some r := by rw [if_neg (show ¬ (false = true) by decide)] at H; exact H
        clear H
        have H := H1
        clear H1
        by_cases c56 : t226 < x11_1
        ·rw [if_pos c56] at H
         exact (laws_FnShelves.j1_dead HT H).elim
        rw [if_neg c56] at H
        have c56b0 : decide (t226 < x11_1) = false := decide_eq_false c56
        clear c56
        replace H := Option.bind_eq_some_iff.mp H
        obtain ⟨t233, A630, H⟩ := H
        replace H : (laws_FnShelves.j1 k1 t211 t212 t215 t216 t219 t220 t223 (decide ((wrap64 (t226 * t211)) < t233))) = some r := H
        have A63 := Aside0.mk A630
        clear A630
        obtain rfl : t230 = t233 := Option.some.inj (A35.out.symm.trans A63.out)
        have H' := Aside0.mk H
        clear H
        go_wp2_with (first | (go_at_call 21; (with_reducible refine (impl_PiecesFit.calls t211 _ _ t212 true _ ?side1 ?side2 A20.out).mono ?_); (case side1 => repeat (first | exact (Kd.N_reads' HO_4.out).2.2 | (with_reducible refine Kd.C_alloc ?_ _) | (with_reducible refine Kd.C_drewN ?_ _) | (with_reducible refine Kd.C_drew ?_))); (case side2 => exact (Kd.N_reads' HO_4.out).2.1); rintro e w64 ⟨rfl, hb⟩; have n0_ := Aside0.mk (Kd.N_below (by (with_reducible repeat (first | apply Kd.N_alloc | apply Kd.N_drewN | apply Kd.N_drew)); exact HO_4.out) hb); have n1_ := Aside0.mk (Kd.R_below (by (with_reducible repeat (first | apply Kd.R_alloc | apply Kd.R_drewN | apply Kd.R_drew)); exact HO_5.out) hb); have n2_ := Aside0.mk (Kd.R_below (by (with_reducible repeat (first | apply Kd.R_alloc | apply Kd.R_drewN | apply Kd.R_drew)); exact HO_7.out) hb); have n3_ := Aside0.mk (Kd.R_below (by (with_reducible repeat (first | apply Kd.R_alloc | apply Kd.R_drewN | apply Kd.R_drew)); exact HO_9.out) hb); have n4_ := Aside0.mk (below_step (by repeat (first | (with_reducible first | exact HB.out | apply below_alloc | apply pw_below_drewN | apply below_drew1) | exact HB.out)) hb); clear HO_4; clear HO_5; clear HO_7; clear HO_9; clear HB; have HO_4 := n0_; have HO_5 := n1_; have HO_7 := n2_; have HO_9 := n3_; have HB := n4_; clear n0_ n1_ n2_ n3_ n4_; (try clear hb); (try clear hb2); (try clear hk); (try clear hi); obtain ⟨Ao65, co65, eo65⟩ := Kd.R_slice HO_5.out; subst eo65; obtain ⟨Ao66, co66, eo66⟩ := Kd.R_slice HO_7.out; subst eo66; obtain ⟨Ao67, co67, eo67⟩ := Kd.R_slice HO_9.out; subst eo67) | (go_at_call 22; (with_reducible refine (laws_area.calls k1 _ _ t212 t230 _ ?side1 ?side2 A35.out).mono ?_); (case side1 => repeat (first | exact (Kd.N_reads' HO_4.out).2.2 | (with_reducible refine Kd.C_alloc ?_ _) | (with_reducible refine Kd.C_drewN ?_ _) | (with_reducible refine Kd.C_drew ?_))); (case side2 => exact (Kd.N_reads' HO_4.out).2.1); rintro e w' ⟨rfl, ⟨nd, rfl⟩⟩) | (go_at_call 23; (with_reducible refine (impl_DoOverlap.calls k1 _ _ t212 _ _ t215 false _ ?side1 ?side2 ?side3 ?side4 A41.out).mono ?_); (case side1 => repeat (first | exact (Kd.N_reads' HO_4.out).2.2 | (with_reducible refine Kd.C_alloc ?_ _) | (with_reducible refine Kd.C_drewN ?_ _) | (with_reducible refine Kd.C_drew ?_))); (case side2 => exact (Kd.N_reads' HO_4.out).2.1); (case side3 => repeat (first | exact (Kd.R_reads' HO_5.out).2.2 | (with_reducible refine Kd.C_alloc ?_ _) | (with_reducible refine Kd.C_drewN ?_ _) | (with_reducible refine Kd.C_drew ?_))); (case side4 => exact (Kd.R_reads' HO_5.out).2.1); rintro e w68 ⟨rfl, hb⟩; have n0_ := Aside0.mk (Kd.N_below (by (with_reducible repeat (first | apply Kd.N_alloc | apply Kd.N_drewN | apply Kd.N_drew)); exact HO_4.out) hb); have n1_ := Aside0.mk (Kd.R_below (by (with_reducible repeat (first | apply Kd.R_alloc | apply Kd.R_drewN | apply Kd.R_drew)); exact HO_5.out) hb); have n2_ := Aside0.mk (Kd.R_below (by (with_reducible repeat (first | apply Kd.R_alloc | apply Kd.R_drewN | apply Kd.R_drew)); exact HO_7.out) hb); have n3_ := Aside0.mk (Kd.R_below (by (with_reducible repeat (first | apply Kd.R_alloc | apply Kd.R_drewN | apply Kd.R_drew)); exact HO_9.out) hb); have n4_ := Aside0.mk (below_step (by repeat (first | (with_reducible first | exact HB.out | apply below_alloc | apply pw_below_drewN | apply below_drew1) | exact HB.out)) hb); clear HO_4; clear HO_5; clear HO_7; clear HO_9; clear HB; have HO_4 := n0_; have HO_5 := n1_; have HO_7 := n2_; have HO_9 := n3_; have HB := n4_; clear n0_ n1_ n2_ n3_ n4_; (try clear hb); (try clear hb2); (try clear hk); (try clear hi)) | (go_at_call 23; (with_reducible refine (impl_DoOverlap.calls k1 _ _ t212 _ _ t219 false _ ?side1 ?side2 ?side3 ?side4 A48.out).mono ?_); (case side1 => repeat (first | exact (Kd.N_reads' HO_4.out).2.2 | (with_reducible refine Kd.C_alloc ?_ _) | (with_reducible refine Kd.C_drewN ?_ _) | (with_reducible refine Kd.C_drew ?_))); (case side2 => exact (Kd.N_reads' HO_4.out).2.1); (case side3 => repeat (first | exact (Kd.R_reads' HO_7.out).2.2 | (with_reducible refine Kd.C_alloc ?_ _) | (with_reducible refine Kd.C_drewN ?_ _) | (with_reducible refine Kd.C_drew ?_))); (case side4 => exact (Kd.R_reads' HO_7.out).2.1); rintro e w69 ⟨rfl, hb⟩; have n0_ := Aside0.mk (Kd.N_below (by (with_reducible repeat (first | apply Kd.N_alloc | apply Kd.N_drewN | apply Kd.N_drew)); exact HO_4.out) hb); have n1_ := Aside0.mk (Kd.R_below (by (with_reducible repeat (first | apply Kd.R_alloc | apply Kd.R_drewN | apply Kd.R_drew)); exact HO_5.out) hb); have n2_ := Aside0.mk (Kd.R_below (by (with_reducible repeat (first | apply Kd.R_alloc | apply Kd.R_drewN | apply Kd.R_drew)); exact HO_7.out) hb); have n3_ := Aside0.mk (Kd.R_below (by (with_reducible repeat (first | apply Kd.R_alloc | apply Kd.R_drewN | apply Kd.R_drew)); exact HO_9.out) hb); have n4_ := Aside0.mk (below_step (by repeat (first | (with_reducible first | exact HB.out | apply below_alloc | apply pw_below_drewN | apply below_drew1) | exact HB.out)) hb); clear HO_4; clear HO_5; clear HO_7; clear HO_9; clear HB; have HO_4 := n0_; have HO_5 := n1_; have HO_7 := n2_; have HO_9 := n3_; have HB := n4_; clear n0_ n1_ n2_ n3_ n4_; (try clear hb); (try clear hb2); (try clear hk); (try clear hi)) | (go_at_call 22; (with_reducible refine (laws_area.calls k1 _ _ t212 t230 _ ?side1 ?side2 A63.out).mono ?_); (case side1 => repeat (first | exact (Kd.N_reads' HO_4.out).2.2 | (with_reducible refine Kd.C_alloc ?_ _) | (with_reducible refine Kd.C_drewN ?_ _) | (with_reducible refine Kd.C_drew ?_))); (case side2 => exact (Kd.N_reads' HO_4.out).2.1); rintro e w' ⟨rfl, ⟨nd, rfl⟩⟩))
        go_meet
        case rel => exact ⟨_, (decide ((wrap64 (t226 * t211)) < t230)), (by first | rfl | (simp; done) | (simp [*]; done)), H', ⟨by have := HK1.out; first | omega | exact Nat.le_refl _⟩, ⟨by (with_reducible repeat (first | apply Kd.N_alloc | apply Kd.N_drewN | apply Kd.N_drew)); exact HO_4.out⟩, ⟨by (with_reducible repeat (first | apply Kd.R_alloc | apply Kd.R_drewN | apply Kd.R_drew)); exact HO_5.out⟩, ⟨by (with_reducible repeat (first | apply Kd.R_alloc | apply Kd.R_drewN | apply Kd.R_drew)); exact HO_7.out⟩, ⟨by (with_reducible repeat (first | apply Kd.R_alloc | apply Kd.R_drewN | apply Kd.R_drew)); exact HO_9.out⟩, ⟨by repeat (first | (with_reducible first | exact HB.out | apply below_alloc | apply pw_below_drewN | apply below_drew1) | exact HB.out)⟩⟩
      case rest =>
       rename_i ia1_ ia2_ ia3_ ia4_ ia5_ ia6_ ia7_ ia8_ ia9_ ia10_ ia11_ ia12_ ia13_ ia14_ ia15_ ia16_ ia17_ ia18_ ia19_ ia20_ ia21_ ia22_
       revert k A0 c0 l0 r w HT hu44 HR0 HC0 t211 t212 A3 t215 t216 A4 t219 t220 A5 t223 A6 t226 A7 ia1_ w8 Ao9 co9 w10 v217 w11 v221 w12 v224 w13 HO214 HO218 HO222 HO225 ia2_ ia3_ wr u13 ia4_ ia5_ ia6_ ia7_ ia8_ ia9_ ia10_ ia11_ ia12_ ia13_ ia14_ ia15_ x11_1 x50_1 HO_4 HO_5 HO_7 HO_9 HB k1 ia16_ HK1 c14b0 HC19 ia17_ ia18_ ia19_ ia20_ ia21_ ia22_ wc u23 u24 u25 u26 u27 u28 u29 u30 u31 u32 u33 u34 u35 u36 u37 u38 u39 u40 u41 u42 u43 u44 u45 u46 u47 u51 u52 u53 u54 u55 u56 u57 u58 u59 u60 u61 u62 u63 u64 u65 u66 u67 u68 u69 u70 u71 u72 u73 u74 u75 u76 u77 u78 u79 u80 u81 u82 u83 u84 u85 u86 u87 u88 u89 u90 u91 u92 u93 u94 u95 u96 u97 u98 u99 u100 u101 u102 u103 u104 u105 u106 u107 u108 u109 u110 u111 u112 u113 u114 u115 u116 u117 u118 u119 u120 u121 u122 u123 u124 u125 u126 u127 u128 u129 u130 u131 u135 u136 u137 u138 u139 u140 u141 u142 u143 u144 u145 u146 u147 u148 u149 u150 u151 u152 u153 u154 u155 u156 u157 u158 u159 u160 u161 u162 u163 u164 u165 u166 u167 u168 u169 u170 u171 u172 u173 u174 u175 u176 u177 u178 u179 u180 u181 u182 u183 u184 u185 u186 u187 u188 u189 u190 u191 u192 u193 u194 u195 u196 u197 u198 u199 u200 u201 u202 u203 u204 u205 u206 u207 u211 u212 u213 u214 u215 u216 u217 u218 u219 u220 u221 u222 u223 u224 u225 u226 u227 u228 u229 u230 u231 u232 u233 u234 u235 u236 u237 u238 u239 u240 u241 u242 u243 u244 u245 u246 u247 u248 u249 u250 u251 u252 u253 u254 u255 u256 u257 u258 u259 u260 u261 u262 u263 u264 u265 u266 u267 u268 u269 u270 u271 u272 u273 u274 u275 u276 u277 u278 u279 u280 u281 u282 u283 u284 u285 u286 u287 u288 u289 u290 u291 u292 u293 u294 u295 u296 u297 u298 u299 u300 u301 u302 u303 u304 u305 u306 u307 u308 u309 u310 u311 u312 u313 u314 u315 u316 u317 u318 u322 u323 u324 u325 u326 u327 u328 u329 u330 u331 u332 u333 u334 u335 u336 u337 u338 u339 u340 u341 u342 u343 u344 u345 u346 u347 u348 u349 u350 u351 u352 u353 u354 u355 u356 u357 u358 u359 u360 u361 u362 u363 u364 u365 u366 u367 u368 u369 u370 u371 u372 u373 u374 u375 u376 u377 u378 u379 u380 u381 u382 u383 u384 u385 u386 u387 u388 u389 u390 u391 u392 u393 u394 u395 u396 u397 u398 u399 u400 u401 hcut
       exact hP276_.out

end Go.Proofs.Ytadloeklhjoohaa.XFnShelves
