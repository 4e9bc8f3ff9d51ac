/- What functions of the program compute, as plain Lean functions, and that Go's calls come to just that: written by wip/tools/xprint.py for the law FnExactFirstShelf. -/
import Derived.Test.YtkndopemfleedaaXFnExactFirstShelfx0
import Derived.Test.YtkndopemfleedaaXFnExactFirstShelfx1
import Derived.Test.YtkndopemfleedaaXFnExactFirstShelfx2
import Derived.Test.YtkndopemfleedaaXFnExactFirstShelfx5
import Derived.Test.YtkndopemfleedaaXFnExactFirstShelfx7
import Derived.Test.YtkndopemfleedaaXFnExactFirstShelfx8
namespace Go.Proofs.Ytkndopemfleedaa.XFnExactFirstShelf
open Go.RowKit Go.Proofs.YtkndopemfleedaaW.PrintWords Go.Proofs.YtkndopemfleedaaW.PrintLast Go.Proofs.YtkndopemfleedaaW.PrintMore
attribute [local go_sem] max2_int min2_int max_two min_two max_three min_three max_four min_four   -- for this text's walks alone
set_option linter.unusedVariables false
set_option linter.unusedSimpArgs false

/-! ### laws_FnExactFirstShelf: function 5 -/
/-- What is to be shown of FirstShelf: the two texts give the same rows and the same word, and marks can be told. -/
def laws_FnExactFirstShelf.At (k : Nat) (a0 : Int) (l1 : List (List Int)) : Prop := ∃ s, laws_szIntSS.f k l1 1048576 = some s ∧ (s < 0 ∨ ∃ (r : List S40) (b : Int) (m0 m : Int) (rm : List S40), laws_toIntSS.f k l1 = some l1 ∧ spec_FirstShelf.f k a0 l1 = some (r, b) ∧ impl_FirstShelf.f k a0 l1 = some (r, b) ∧ laws_eqPointS.f k r r = some true ∧ laws_eqIntSS.f k l1 l1 = some true ∧ laws_markIntSS.f k l1 1 = some m0 ∧ 0 ≤ m0 ∧ laws_markPointS.f k r 1 = some (m, rm) ∧ laws_heldPointS.f k rm 1 = some m ∧ 0 ≤ m ∧ 0 ≤ s)
/-- THE ONE PLAIN STATEMENT of laws_FnExactFirstShelf. -/
def laws_FnExactFirstShelf.Pure : Prop := ∀ (a0 : Int) (l1 : List (List Int)), (Lit.int .i64 a0).wf = true → l1.length ≤ maxLen → l1.length * 24 ≤ 140737488351232 → (∀ x ∈ l1, x.length ≤ maxLen ∧ ∀ y ∈ x, (Lit.int .i64 y).wf = true) → ∃ k, laws_FnExactFirstShelf.At k a0 l1
set_option maxHeartbeats 8000000 in
set_option maxRecDepth 100000 in
theorem laws_FnExactFirstShelf.walk (P : laws_FnExactFirstShelf.Pure) (a0 : Int) (A1 : Option Addr) (c1 : Nat) (l1 : List (List Int)) (w : World) (hr1 : Kd.C (Kd.slice 3 (Kd.int .i64)) w A1 l1.length l1) (hc1 : l1.length ≤ c1) (w0 : (Lit.int .i64 a0).wf = true) (hm1 : l1.length ≤ maxLen) (y1 : l1.length * 24 ≤ 140737488351232) (hw1 : ∀ x ∈ l1, x.length ≤ maxLen ∧ ∀ y ∈ x, (Lit.int .i64 y).wf = true) :
    Calls Try.prog 5 #[.int .i64 a0, .slice A1 l1.length c1] w fun e w' => e = .returned (.bool true) ∧ Below w.heap.size w w' := by
  obtain ⟨k, s, hs, hP⟩ := P a0 l1 w0 hm1 y1 hw1
  have HR := Aside0.mk hr1
  have HC := Aside0.mk hc1
  have HS := Aside0.mk hs
  have HP := Aside0.mk hP
  have HB0 := Aside0.mk (Below.refl w.heap.size w)
  clear hr1 hc1 hs hP P w0 hm1 y1 hw1
  go_enter Try.func5, Try.ntmps5
  go_wp2_with fail
  refine (laws_szIntSS.calls k A1 c1 l1 1048576 s w HR.out HC.out HS.out).mono ?_
  rintro e w0 ⟨rfl, hd⟩
  have HB := Aside0.mk (show Below w.heap.size w w0 from Drawn0.below hd)
  clear hd
  by_cases hneg : s < 0
  · have cb0 : decide (s < 0) = true := decide_eq_true hneg
    clear hneg
    go_wp2
    go_ret
    exact ⟨rfl, HB.out⟩
  have cb0 : decide (s < 0) = false := decide_eq_false hneg
  obtain ⟨r, b, m0, m, rm, h1, h2, h3, h4, h5, h6, h7, h8, h9, h10, _⟩ := (HP.out.resolve_left hneg)
  have HT := Aside0.mk h1
  have HSP := Aside0.mk h2
  have HIM := Aside0.mk h3
  have HEQ := Aside0.mk h4
  have HEL := Aside0.mk h5
  have HM0 := Aside0.mk h6
  have HMT := Aside0.mk h8
  have HHE := Aside0.mk h9
  have c7b0 : decide (m0 < 0) = false := decide_eq_false (by omega)
  have c10b0 : decide (m < 0) = false := decide_eq_false (by omega)
  clear h1 h2 h3 h4 h5 h6 h7 h8 h9 h10 hneg HP
  go_wp2_with fail
  refine (laws_toIntSS.calls k A1 c1 l1 l1 w0 (Kd.C_below HR.out HB.out) HC.out HT.out).mono ?_
  rintro e w1 ⟨vT1, rfl, hs_, hb_⟩
  have hb2_ := hb_
  have hsz_T1 := HB.out.size
  have LE_w0 := Aside0.mk hsz_T1
  have T1 := Aside0.mk (Kd.S_mono (Kd.S_bound hs_) (ok' := fun k_ => w0.heap.size ≤ k_ ∧ k_ < w1.heap.size) (fun k_ hk => ⟨hk.2.1, hk.2.2.1⟩))
  have n_b := Aside0.mk (below_step HB.out hb_)
  have ZT1 := Aside0.mk (show w0.heap.size ≤ w1.heap.size from hb_.size)
  clear HB; have HB := n_b; clear n_b hs_ hb_ hb2_ hsz_T1
  obtain ⟨A_T1, c_T1, e_T1⟩ := Kd.R_slice (Kd.S_R T1.out)
  subst e_T1
  go_wp2_with fail
  refine (spec_FirstShelf.calls k a0 A_T1 c_T1 l1 r b w1 (Kd.S_reads' T1.out).2.2 (Kd.S_reads' T1.out).2.1 HSP.out).mono ?_
  rintro e w2 ⟨vW0, rfl, hs_, hb_⟩
  have hb2_ := hb_
  have n_T1 := Aside0.mk (Kd.S_below T1.out hb2_)
  clear T1; have T1 := n_T1; clear n_T1
  have hsz_W0 := HB.out.size
  have LE_w1 := Aside0.mk hsz_W0
  have W0 := Aside0.mk (Kd.R_mono (Kd.R_bound hs_) (ok' := fun k_ => w1.heap.size ≤ k_ ∧ k_ < w2.heap.size) (fun k_ hk => ⟨hk.2.1, hk.2.2.1⟩))
  have n_b := Aside0.mk (below_step HB.out hb_)
  have ZW0 := Aside0.mk (show w1.heap.size ≤ w2.heap.size from hb_.size)
  clear HB; have HB := n_b; clear n_b hs_ hb_ hb2_ hsz_W0
  obtain ⟨A_W0, c_W0, e_W0⟩ := Kd.R_slice (W0.out)
  subst e_W0
  go_wp2_with fail
  refine (laws_toIntSS.calls k A1 c1 l1 l1 w2 (Kd.C_below HR.out HB.out) HC.out HT.out).mono ?_
  rintro e w3 ⟨vX0, rfl, hs_, hb_⟩
  have hb2_ := hb_
  have n_T1 := Aside0.mk (Kd.S_below T1.out hb2_)
  have n_W0 := Aside0.mk (Kd.R_below W0.out hb2_)
  clear T1; have T1 := n_T1; clear n_T1
  clear W0; have W0 := n_W0; clear n_W0
  have hsz_X0 := HB.out.size
  have LE_w2 := Aside0.mk hsz_X0
  have X0 := Aside0.mk (Kd.S_mono (Kd.S_bound hs_) (ok' := fun k_ => w2.heap.size ≤ k_ ∧ k_ < w3.heap.size) (fun k_ hk => ⟨hk.2.1, hk.2.2.1⟩))
  have n_b := Aside0.mk (below_step HB.out hb_)
  have ZX0 := Aside0.mk (show w2.heap.size ≤ w3.heap.size from hb_.size)
  clear HB; have HB := n_b; clear n_b hs_ hb_ hb2_ hsz_X0
  obtain ⟨A_X0, c_X0, e_X0⟩ := Kd.R_slice (Kd.S_R X0.out)
  subst e_X0
  go_wp2_with fail
  refine (impl_FirstShelf.calls k a0 A_X0 c_X0 l1 r b w3 (Kd.S_reads' X0.out).2.2 (Kd.S_reads' X0.out).2.1 HIM.out).mono ?_
  rintro e w4 ⟨vG0, rfl, hs_, hb_⟩
  have hb2_ := hb_
  have n_T1 := Aside0.mk (Kd.S_below T1.out hb2_)
  have n_W0 := Aside0.mk (Kd.R_below W0.out hb2_)
  have n_X0 := Aside0.mk (Kd.S_below X0.out hb2_)
  clear T1; have T1 := n_T1; clear n_T1
  clear W0; have W0 := n_W0; clear n_W0
  clear X0; have X0 := n_X0; clear n_X0
  have hsz_G0 := HB.out.size
  have LE_w3 := Aside0.mk hsz_G0
  have G0 := Aside0.mk (Kd.R_mono (Kd.R_bound hs_) (ok' := fun k_ => w3.heap.size ≤ k_ ∧ k_ < w4.heap.size) (fun k_ hk => ⟨hk.2.1, hk.2.2.1⟩))
  have n_b := Aside0.mk (below_step HB.out hb_)
  have ZG0 := Aside0.mk (show w3.heap.size ≤ w4.heap.size from hb_.size)
  clear HB; have HB := n_b; clear n_b hs_ hb_ hb2_ hsz_G0
  obtain ⟨A_G0, c_G0, e_G0⟩ := Kd.R_slice (G0.out)
  subst e_G0
  go_wp2_with fail
  refine (laws_eqPointS.calls k A_G0 c_G0 r A_W0 c_W0 r true w4 (Kd.R_reads' G0.out).2.2 (Kd.R_reads' G0.out).2.1 (Kd.R_reads' W0.out).2.2 (Kd.R_reads' W0.out).2.1 HEQ.out).mono ?_
  rintro e w5 ⟨rfl, hd_⟩
  have hb2_ : Below w4.heap.size w4 w5 := by first | exact Drawn0.below hd_ | exact hd_
  have n_T1 := Aside0.mk (Kd.S_below T1.out hb2_)
  have n_W0 := Aside0.mk (Kd.R_below W0.out hb2_)
  have n_X0 := Aside0.mk (Kd.S_below X0.out hb2_)
  have n_G0 := Aside0.mk (Kd.R_below G0.out hb2_)
  clear T1; have T1 := n_T1; clear n_T1
  clear W0; have W0 := n_W0; clear n_W0
  clear X0; have X0 := n_X0; clear n_X0
  clear G0; have G0 := n_G0; clear n_G0
  have n_b := Aside0.mk (below_step HB.out hb2_)
  clear HB; have HB := n_b; clear n_b hd_ hb2_
  go_wp2_with fail
  refine (laws_toIntSS.calls k A1 c1 l1 l1 w5 (Kd.C_below HR.out HB.out) HC.out HT.out).mono ?_
  rintro e w6 ⟨vT3, rfl, hs_, hb_⟩
  have hb2_ := hb_
  have n_T1 := Aside0.mk (Kd.S_below T1.out hb2_)
  have n_W0 := Aside0.mk (Kd.R_below W0.out hb2_)
  have n_X0 := Aside0.mk (Kd.S_below X0.out hb2_)
  have n_G0 := Aside0.mk (Kd.R_below G0.out hb2_)
  clear T1; have T1 := n_T1; clear n_T1
  clear W0; have W0 := n_W0; clear n_W0
  clear X0; have X0 := n_X0; clear n_X0
  clear G0; have G0 := n_G0; clear n_G0
  have hsz_T3 := HB.out.size
  have LE_w5 := Aside0.mk hsz_T3
  have T3 := Aside0.mk (Kd.S_mono (Kd.S_bound hs_) (ok' := fun k_ => w5.heap.size ≤ k_ ∧ k_ < w6.heap.size) (fun k_ hk => ⟨hk.2.1, hk.2.2.1⟩))
  have n_b := Aside0.mk (below_step HB.out hb_)
  have ZT3 := Aside0.mk (show w5.heap.size ≤ w6.heap.size from hb_.size)
  clear HB; have HB := n_b; clear n_b hs_ hb_ hb2_ hsz_T3
  obtain ⟨A_T3, c_T3, e_T3⟩ := Kd.R_slice (Kd.S_R T3.out)
  subst e_T3
  go_wp2_with fail
  refine (laws_eqIntSS.calls k A_X0 c_X0 l1 A_T3 c_T3 l1 true w6 (Kd.S_reads' X0.out).2.2 (Kd.S_reads' X0.out).2.1 (Kd.S_reads' T3.out).2.2 (Kd.S_reads' T3.out).2.1 HEL.out).mono ?_
  rintro e w7 ⟨rfl, hd_⟩
  have hb2_ : Below w6.heap.size w6 w7 := by first | exact Drawn0.below hd_ | exact hd_
  have n_T1 := Aside0.mk (Kd.S_below T1.out hb2_)
  have n_W0 := Aside0.mk (Kd.R_below W0.out hb2_)
  have n_X0 := Aside0.mk (Kd.S_below X0.out hb2_)
  have n_G0 := Aside0.mk (Kd.R_below G0.out hb2_)
  have n_T3 := Aside0.mk (Kd.S_below T3.out hb2_)
  clear T1; have T1 := n_T1; clear n_T1
  clear W0; have W0 := n_W0; clear n_W0
  clear X0; have X0 := n_X0; clear n_X0
  clear G0; have G0 := n_G0; clear n_G0
  clear T3; have T3 := n_T3; clear n_T3
  have n_b := Aside0.mk (below_step HB.out hb2_)
  clear HB; have HB := n_b; clear n_b hd_ hb2_
  go_wp2_with fail
  refine (laws_markIntSS.calls k _ _ l1 1 m0 w w7 HB.out (Kd.S_R (Kd.S_lower X0.out (by have := LE_w2.out; omega))) HM0.out).mono ?_
  rintro e w8 ⟨rfl, hb_, hk_⟩
  have n_W0 := Aside0.mk (Kd.R_kept W0.out hk_ (fun k_ h1_ h2_ => by obtain ⟨a_, b_⟩ := h1_; obtain ⟨c_, d_⟩ := h2_; have z1 := ZX0.out; omega))
  have n_G0 := Aside0.mk (Kd.R_kept G0.out hk_ (fun k_ h1_ h2_ => by obtain ⟨a_, b_⟩ := h1_; obtain ⟨c_, d_⟩ := h2_; have z1 := ZX0.out; omega))
  have HB2 := Aside0.mk hb_
  clear W0; have W0 := n_W0; clear n_W0
  clear G0; have G0 := n_G0; clear n_G0
  clear HB; have HB := HB2; clear HB2 hb_ hk_ X0 T1 T3
  go_wp2_with fail
  refine (laws_eqPointS.calls k A_G0 c_G0 r A_W0 c_W0 r true w8 (Kd.R_reads' G0.out).2.2 (Kd.R_reads' G0.out).2.1 (Kd.R_reads' W0.out).2.2 (Kd.R_reads' W0.out).2.1 HEQ.out).mono ?_
  rintro e w9 ⟨rfl, hd_⟩
  have hb2_ : Below w8.heap.size w8 w9 := by first | exact Drawn0.below hd_ | exact hd_
  have n_W0 := Aside0.mk (Kd.R_below W0.out hb2_)
  have n_G0 := Aside0.mk (Kd.R_below G0.out hb2_)
  clear W0; have W0 := n_W0; clear n_W0
  clear G0; have G0 := n_G0; clear n_G0
  have n_b := Aside0.mk (below_step HB.out hb2_)
  clear HB; have HB := n_b; clear n_b hd_ hb2_
  go_wp2_with fail
  refine (laws_markPointS.calls k _ _ r 1 m rm w w9 HB.out (Kd.R_lower G0.out (by have := LE_w3.out; omega)) HMT.out).mono ?_
  rintro e w10 ⟨rfl, hs_, hb_, hk_⟩
  have n_W0 := Aside0.mk (Kd.R_kept W0.out hk_ (fun k_ h1_ h2_ => by obtain ⟨a_, b_⟩ := h1_; obtain ⟨c_, d_⟩ := h2_; have z1 := ZX0.out; omega))
  have HB2 := Aside0.mk hb_
  have n_G0 := Aside0.mk hs_
  have HLN := Aside0.mk (Kd.R_reads' hs_).1
  clear W0; have W0 := n_W0; clear n_W0
  clear G0; have G0 := n_G0; clear n_G0
  clear HB; have HB := HB2; clear HB2 hb_ hk_ hs_
  have G0C := Aside0.mk (show Kd.C k40 w10 A_G0 rm.length rm ∧ rm.length ≤ c_G0 from ⟨(Kd.R_reads' G0.out).2.2, by have := (Kd.R_reads' G0.out).2.1; have := HLN.out; omega⟩)
  clear G0
  go_wp2_with fail
  have hcall_ := laws_heldPointS.calls k A_G0 c_G0 rm 1 m w10 G0C.out.1 G0C.out.2 HHE.out
  rw [← HLN.out] at hcall_
  refine hcall_.mono ?_
  clear hcall_
  rintro e w11 ⟨rfl, hd_⟩
  have hb2_ : Below w10.heap.size w10 w11 := by first | exact Drawn0.below hd_ | exact hd_
  have n_W0 := Aside0.mk (Kd.R_below W0.out hb2_)
  clear W0; have W0 := n_W0; clear n_W0
  have n_G := Aside0.mk (show _ ∧ rm.length ≤ c_G0 from ⟨Kd.C_below G0C.out.1 hb2_, G0C.out.2⟩)
  have n_b := Aside0.mk (below_step HB.out hb2_)
  clear HB G0C; have HB := n_b; have G0C := n_G; clear n_b n_G hd_ hb2_
  go_wp2_with fail
  refine (laws_toIntSS.calls k A1 c1 l1 l1 w11 (Kd.C_below HR.out HB.out) HC.out HT.out).mono ?_
  rintro e w12 ⟨vT4, rfl, hs_, hb_⟩
  have hb2_ := hb_
  have n_G := Aside0.mk (show _ ∧ rm.length ≤ c_G0 from ⟨Kd.C_below G0C.out.1 hb2_, G0C.out.2⟩)
  clear G0C; have G0C := n_G; clear n_G
  have n_W0 := Aside0.mk (Kd.R_below W0.out hb2_)
  clear W0; have W0 := n_W0; clear n_W0
  have hsz_T4 := HB.out.size
  have LE_w11 := Aside0.mk hsz_T4
  have T4 := Aside0.mk (Kd.S_mono (Kd.S_bound hs_) (ok' := fun k_ => w11.heap.size ≤ k_ ∧ k_ < w12.heap.size) (fun k_ hk => ⟨hk.2.1, hk.2.2.1⟩))
  have n_b := Aside0.mk (below_step HB.out hb_)
  have ZT4 := Aside0.mk (show w11.heap.size ≤ w12.heap.size from hb_.size)
  clear HB; have HB := n_b; clear n_b hs_ hb_ hb2_ hsz_T4
  obtain ⟨A_T4, c_T4, e_T4⟩ := Kd.R_slice (Kd.S_R T4.out)
  subst e_T4
  go_wp2_with fail
  refine (impl_FirstShelf.calls k a0 A_T4 c_T4 l1 r b w12 (Kd.S_reads' T4.out).2.2 (Kd.S_reads' T4.out).2.1 HIM.out).mono ?_
  rintro e w13 ⟨vH0, rfl, hs_, hb_⟩
  have hb2_ := hb_
  have n_G := Aside0.mk (show _ ∧ rm.length ≤ c_G0 from ⟨Kd.C_below G0C.out.1 hb2_, G0C.out.2⟩)
  clear G0C; have G0C := n_G; clear n_G
  have n_W0 := Aside0.mk (Kd.R_below W0.out hb2_)
  have n_T4 := Aside0.mk (Kd.S_below T4.out hb2_)
  clear W0; have W0 := n_W0; clear n_W0
  clear T4; have T4 := n_T4; clear n_T4
  have hsz_H0 := HB.out.size
  have LE_w12 := Aside0.mk hsz_H0
  have H0 := Aside0.mk (Kd.R_mono (Kd.R_bound hs_) (ok' := fun k_ => w12.heap.size ≤ k_ ∧ k_ < w13.heap.size) (fun k_ hk => ⟨hk.2.1, hk.2.2.1⟩))
  have n_b := Aside0.mk (below_step HB.out hb_)
  have ZH0 := Aside0.mk (show w12.heap.size ≤ w13.heap.size from hb_.size)
  clear HB; have HB := n_b; clear n_b hs_ hb_ hb2_ hsz_H0
  obtain ⟨A_H0, c_H0, e_H0⟩ := Kd.R_slice (H0.out)
  subst e_H0
  go_wp2_with fail
  refine (laws_eqPointS.calls k A_H0 c_H0 r A_W0 c_W0 r true w13 (Kd.R_reads' H0.out).2.2 (Kd.R_reads' H0.out).2.1 (Kd.R_reads' W0.out).2.2 (Kd.R_reads' W0.out).2.1 HEQ.out).mono ?_
  rintro e w14 ⟨rfl, hd_⟩
  have hb2_ : Below w13.heap.size w13 w14 := by first | exact Drawn0.below hd_ | exact hd_
  have n_G := Aside0.mk (show _ ∧ rm.length ≤ c_G0 from ⟨Kd.C_below G0C.out.1 hb2_, G0C.out.2⟩)
  clear G0C; have G0C := n_G; clear n_G
  have n_W0 := Aside0.mk (Kd.R_below W0.out hb2_)
  have n_T4 := Aside0.mk (Kd.S_below T4.out hb2_)
  have n_H0 := Aside0.mk (Kd.R_below H0.out hb2_)
  clear W0; have W0 := n_W0; clear n_W0
  clear T4; have T4 := n_T4; clear n_T4
  clear H0; have H0 := n_H0; clear n_H0
  have n_b := Aside0.mk (below_step HB.out hb2_)
  clear HB; have HB := n_b; clear n_b hd_ hb2_
  go_wp2_with fail
  have hcall_ := laws_heldPointS.calls k A_G0 c_G0 rm 1 m w14 G0C.out.1 G0C.out.2 HHE.out
  rw [← HLN.out] at hcall_
  refine hcall_.mono ?_
  clear hcall_
  rintro e w15 ⟨rfl, hd_⟩
  have hb2_ : Below w14.heap.size w14 w15 := by first | exact Drawn0.below hd_ | exact hd_
  have n_W0 := Aside0.mk (Kd.R_below W0.out hb2_)
  have n_T4 := Aside0.mk (Kd.S_below T4.out hb2_)
  have n_H0 := Aside0.mk (Kd.R_below H0.out hb2_)
  clear W0; have W0 := n_W0; clear n_W0
  clear T4; have T4 := n_T4; clear n_T4
  clear H0; have H0 := n_H0; clear n_H0
  have n_G := Aside0.mk (show _ ∧ rm.length ≤ c_G0 from ⟨Kd.C_below G0C.out.1 hb2_, G0C.out.2⟩)
  have n_b := Aside0.mk (below_step HB.out hb2_)
  clear HB G0C; have HB := n_b; have G0C := n_G; clear n_b n_G hd_ hb2_
  go_wp2
  go_ret
  exact ⟨rfl, HB.out⟩

end Go.Proofs.Ytkndopemfleedaa.XFnExactFirstShelf
