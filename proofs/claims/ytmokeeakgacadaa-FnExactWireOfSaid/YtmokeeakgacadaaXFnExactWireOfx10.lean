/- What functions of the program compute, as plain Lean functions, and that Go's calls come to just that: written by wip/tools/xprint.py for the law FnExactWireOf. -/
import Derived.Test.YtmokeeakgacadaaXFnExactWireOfx0
import Derived.Test.YtmokeeakgacadaaXFnExactWireOfx1
import Derived.Test.YtmokeeakgacadaaXFnExactWireOfx4
import Derived.Test.YtmokeeakgacadaaXFnExactWireOfx5
import Derived.Test.YtmokeeakgacadaaXFnExactWireOfx8
import Derived.Test.YtmokeeakgacadaaXFnExactWireOfx9
namespace Go.Proofs.Ytmokeeakgacadaa.XFnExactWireOf
open Go.RowKit Go.Proofs.YtmokeeakgacadaaW.PrintWords Go.Proofs.YtmokeeakgacadaaW.PrintLast Go.Proofs.YtmokeeakgacadaaW.PrintMore
attribute [local go_sem] max2_int min2_int max_two min_two max_three min_three max_four min_four   -- for this text's walks alone
set_option linter.unusedVariables false
set_option linter.unusedSimpArgs false

/-! ### laws_FnExactWireOf: function 4 -/
/-! rows that lie apart, one of them written -/
def RowsF (f : Nat → Nat) (W : World) (base : Nat) (ok : Nat → Prop) (u : Value) (l : List (List Int)) : Prop := (Kd.tag f (Kd.slice 3 (Kd.int .i64))).R 22 W base ok u l.zipIdx
theorem rowsF_at {f : Nat → Nat} {W : World} {base : Nat} {ok : Nat → Prop} {u : Value} {l : List (List Int)} (h : RowsF f W base ok u l) (i : Nat) (hi : i < l.length) :
    ∃ g cap v, u = .slice (some ⟨g, 0, none⟩) l.length cap ∧ W.cell? ⟨g, i, none⟩ = some v ∧ Kd.R (Kd.int .i64) 3 W base (fun k => some k = v.ownBlock) v l[i] ∧ (∀ k, some k = v.ownBlock → ok k) ∧
      ∀ (W' : World) (r2 : List Int), Kd.R (Kd.int .i64) 3 W' base (fun _ => True) v r2 → Kept W W' (fun k => some k = v.ownBlock) → RowsF f W' base ok u (l.set i r2) := by
  obtain ⟨h0, inner, ho, hr⟩ := h
  rw [List.length_zipIdx] at ho
  rcases ho.2 with ⟨_, hn⟩ | ⟨g, cap, cur, eu, hb, hh, hc1, hc2, hc3, hc4⟩
  · omega
  · obtain ⟨v, hv, hR⟩ := hr.2 i (l[i], i) (Kd.zip_at (by simp [hi]))
    have hR : Kd.R (Kd.int .i64) 3 W base (fun k => (ok k ∧ some k ≠ u.ownBlock) ∧ f k = i) v l[i] := hR
    have hv : (inner.drop (i * 1)).take 1 = [v] := hv
    refine ⟨g, cap, v, eu, ?_, Kd.R_tight rfl hR, fun k hk => (hR.1 k hk.symm).1.1, ?_⟩
    · have h1 : cur.toList.take (l.length * 1) = inner := hc4
      have h2 : cur[i]? = some v := by
        rw [← h1] at hv
        have := congrArg (fun z : List Value => z[0]?) hv
        simpa [List.getElem?_take, List.getElem?_drop, hi] using this
      simp [World.cell?, hh, h2]
    · intro W' r2 hR' hkp
      refine ⟨h0, inner, ?_, ?_, fun j p hj => ?_⟩
      · rw [List.length_zipIdx, List.length_set]
        exact own_move ho (fun k hk => hkp.2 k (own_lt ho k hk) (fun e => (hR.1 k e.symm).1.2 hk.symm))
      · have := hr.1
        rw [List.length_zipIdx] at this ⊢
        rw [List.length_set]
        exact this
      · rw [List.getElem?_zipIdx] at hj
        obtain ⟨x, hx, rfl⟩ := Option.map_eq_some_iff.mp hj
        rw [Nat.zero_add]
        by_cases e : i = j
        · subst e
          rw [List.getElem?_set_self hi] at hx
          obtain rfl := Option.some.inj hx
          exact ⟨v, hv, Kd.R_mono (Kd.R_tight rfl hR') (fun k hk => hR.1 k hk.symm)⟩
        · rw [List.getElem?_set_ne e] at hx
          have hM : (Kd.slice 3 (Kd.int .i64)).M W base (fun k => (ok k ∧ some k ≠ u.ownBlock) ∧ f k = j) x ((inner.drop (j * 1)).take 1) := hr.2 j (x, j) (Kd.zip_at hx)
          have hN : (Kd.slice 3 (Kd.int .i64)).M W' base (fun k => (ok k ∧ some k ≠ u.ownBlock) ∧ f k = j) x ((inner.drop (j * 1)).take 1) := Kd.M_step hM (fun k hk hlt => hkp.2 k hlt (fun e2 => e ((hR.1 k e2.symm).2.symm.trans hk.2)))
          exact hN
/-- Marks, row after row; and the rows that they make. -/
def mkT : Nat → List (List Int) → Int → Int → Option (Int × List (List Int))
  | 0, _, _, _ => none
  | k + 1, l, a, i => if i < (l.length : Int) then (if 0 ≤ i then ((laws_markIntS.f k (rd_L1 l i) a).bind fun t => mkT k (l.set i.toNat t.2) t.1 (wrap64 (i + 1))) else none) else (some (a, l))
set_option maxHeartbeats 2000000 in
set_option maxRecDepth 100000 in
theorem marksSS.calls (k : Nat) (ok : Nat → Prop) (u : Value) (l0 : List (List Int)) (a1 r1 : Int) (r2 : List (List Int)) (w0 w : World) (hB : Below w0.heap.size w0 w) (ho : Kd.S (Kd.slice 3 (Kd.int .i64)) 22 w w0.heap.size ok u l0) (h : mkT k l0 a1 0 = some (r1, r2)) :
    Calls Try.prog 22 #[u, .int .i64 a1] w fun e w' => e = .returned (.int .i64 r1) ∧ Kd.S (Kd.slice 3 (Kd.int .i64)) 22 w' w0.heap.size ok u r2 ∧ Below w0.heap.size w0 w' ∧ Kept w w' ok := by
  obtain ⟨f, ho⟩ := ho
  obtain ⟨A, c, rfl⟩ := Kd.R_slice ho
  rw [List.length_zipIdx] at ho ⊢
  have H' := Aside0.mk h
  have HI := Aside0.mk (show RowsF f w w0.heap.size ok (.slice A l0.length c) l0 ∧ Below w0.heap.size w0 w ∧ Kept w w ok from ⟨ho, hB, Kept.refl w ok⟩)
  clear h ho hB
  go_enter Try.func22, Try.ntmps22
  go_wp2
  go_loopg [1, 5] k (fun kq v1 v5 w' => ∃ (l1 : List (List Int)) (x1_1 : Int) (x5_1 : Int), v1 = .int .i64 x1_1 ∧ v5 = .int .i64 x5_1 ∧ Aside0 (l1.length = l0.length) ∧ Aside0 (mkT kq l1 x1_1 x5_1 = some (r1, r2)) ∧ Aside0 (kq ≤ k) ∧ Aside0 (RowsF f w' w0.heap.size ok (.slice A l0.length c) l1 ∧ Below w0.heap.size w0 w' ∧ Kept w w' ok))
  case atStart => exact ⟨l0, a1, 0, rfl, rfl, ⟨rfl⟩, H', ⟨Nat.le_refl _⟩, HI⟩
  case round =>
    clear H' HI
    obtain ⟨l1, x1_1, x5_1, rfl, rfl, HL, HA, HK1, HI⟩ := hrel
    cases gk with
    | zero => exact absurd HA.out (by simp [mkT])
    | succ k1 =>
      have H := HA.out
      clear HA
      simp only [mkT] at H
      by_cases c3 : x5_1 < (l1.length : Int)
      · rw [if_pos c3] at H
        have hl := HL.out
        have c3b0 : decide (x5_1 < (l0.length : Int)) = true := decide_eq_true (by omega)
        by_cases c4 : 0 ≤ x5_1
        · rw [if_pos c4] at H
          have c4b0 : decide (0 ≤ x5_1) = true := decide_eq_true c4
          obtain ⟨t, ht, H⟩ := Option.bind_eq_some_iff.mp H
          have hi : (x5_1 : Int).toNat < l1.length := by omega
          obtain ⟨g, cap, v, eu, hcell, hvr, hvk, hwr⟩ := rowsF_at HI.out.1 (x5_1 : Int).toNat hi
          have hrd : rd_L1 l1 x5_1 = l1[(x5_1 : Int).toNat]'hi := by simp [rd_L1, List.getD_eq_getElem?_getD, hi]
          rw [← hrd] at hvr
          have HT := Aside0.mk ht
          have H' := Aside0.mk H
          have HVR := Aside0.mk hvr
          have HVK := Aside0.mk hvk
          have HWR := Aside0.mk hwr
          injection eu with eA en ec
          subst eA
          replace c3 : (x5_1 < (l0.length : Int)) = True := eq_true (by omega)
          replace c4 := eq_true c4
          clear ht H hvr hvk hwr hl hi hrd en ec
          go_wp2_with fail
          refine (laws_markIntS.calls k1 (fun k_ => some k_ = v.ownBlock) v _ x1_1 t.1 t.2 w0 wr HI.out.2.1 HVR.out HT.out).mono ?_
          rintro e w1 ⟨rfl, hr1, hb1, hk1⟩
          have HI1 := Aside0.mk (show RowsF f w1 w0.heap.size ok (.slice (some ⟨g, 0, none⟩) l0.length c) (l1.set (x5_1 : Int).toNat t.2) ∧ Below w0.heap.size w0 w1 ∧ Kept w w1 ok from ⟨HWR.out w1 t.2 (Kd.R_mono hr1 (fun _ _ => trivial)) hk1, hb1, HI.out.2.2.then_ hk1 (fun k_ hk => .inl (HVK.out k_ hk))⟩)
          clear hr1 hb1 hk1
          go_wp2
          go_roundg k1
          case measure => have := HK1.out; omega
          case rel => exact ⟨l1.set (x5_1 : Int).toNat t.2, t.1, wrap64 (x5_1 + 1), by first | rfl | (simp; done), by first | rfl | (simp; done), ⟨by rw [List.length_set]; exact HL.out⟩, H', ⟨by have := HK1.out; omega⟩, HI1⟩
        · rw [if_neg c4] at H
          exact absurd H (by simp)
      · rw [if_neg c3] at H
        have hl := HL.out
        have c3b0 : decide (x5_1 < (l0.length : Int)) = false := decide_eq_false (by omega)
        clear c3 hl
        obtain ⟨rfl, rfl⟩ := Prod.mk.inj (Option.some.inj H)
        clear H
        go_wp2
        go_ret
        exact ⟨rfl, ⟨f, HI.out.1⟩, HI.out.2⟩
/-- What is to be shown of WireOf: the two texts give the same rows and the same word, and marks can be told. -/
def laws_FnExactWireOf.At (k : Nat) (a0 : Int) (l1 : List (List Int)) (a2 : Int) (a3 : Bool) : Prop := ∃ s, laws_szIntSS.f k l1 1048576 = some s ∧ (s < 0 ∨ ∃ (r : List (List Int)) (b : Bool) (m0 m : Int) (rm : List (List Int)), laws_toIntSS.f k l1 = some l1 ∧ spec_WireOf.f k a0 l1 a2 a3 = some (r, b) ∧ impl_WireOf.f k a0 l1 a2 a3 = some (r, b) ∧ laws_eqIntSS.f k r r = some true ∧ laws_eqIntSS.f k l1 l1 = some true ∧ laws_markIntSS.f k l1 1 = some m0 ∧ 0 ≤ m0 ∧ mkT k r 1 0 = some (m, rm) ∧ laws_heldIntSS.f k rm 1 = some m ∧ 0 ≤ m ∧ 0 ≤ s)
/-- THE ONE PLAIN STATEMENT of laws_FnExactWireOf. -/
def laws_FnExactWireOf.Pure : Prop := ∀ (a0 : Int) (l1 : List (List Int)) (a2 : Int) (a3 : Bool), (Lit.int .i64 a0).wf = true → l1.length ≤ maxLen → l1.length * 24 ≤ 140737488351232 → (∀ x ∈ l1, x.length ≤ maxLen ∧ ∀ y ∈ x, (Lit.int .i64 y).wf = true) → (Lit.int .i64 a2).wf = true →  ∃ k, laws_FnExactWireOf.At k a0 l1 a2 a3
set_option maxHeartbeats 8000000 in
set_option maxRecDepth 100000 in
theorem laws_FnExactWireOf.walk (P : laws_FnExactWireOf.Pure) (a0 : Int) (A1 : Option Addr) (c1 : Nat) (l1 : List (List Int)) (a2 : Int) (a3 : Bool) (w : World) (hr1 : Kd.C (Kd.slice 3 (Kd.int .i64)) w A1 l1.length l1) (hc1 : l1.length ≤ c1) (w0 : (Lit.int .i64 a0).wf = true) (hm1 : l1.length ≤ maxLen) (y1 : l1.length * 24 ≤ 140737488351232) (hw1 : ∀ x ∈ l1, x.length ≤ maxLen ∧ ∀ y ∈ x, (Lit.int .i64 y).wf = true) (w2 : (Lit.int .i64 a2).wf = true)  :
    Calls Try.prog 4 #[.int .i64 a0, .slice A1 l1.length c1, .int .i64 a2, .bool a3] w fun e w' => e = .returned (.bool true) ∧ Below w.heap.size w w' := by
  obtain ⟨k, s, hs, hP⟩ := P a0 l1 a2 a3 w0 hm1 y1 hw1 w2
  have HR := Aside0.mk hr1
  have HC := Aside0.mk hc1
  have HS := Aside0.mk hs
  have HP := Aside0.mk hP
  have HB0 := Aside0.mk (Below.refl w.heap.size w)
  clear hr1 hc1 hs hP P w0 hm1 y1 hw1 w2
  go_enter Try.func4, Try.ntmps4
  go_wp2_with fail
  refine (laws_szIntSS.calls k A1 c1 l1 1048576 s w HR.out HC.out HS.out).mono ?_
  rintro e w0 ⟨rfl, hd⟩
  have HB := Aside0.mk (show Below w.heap.size w w0 from Drawn0.below hd)
  clear hd
  by_cases hneg : s < 0
  · have cb0 : decide (s < 0) = true := decide_eq_true hneg
    clear hneg
    go_wp2
    go_ret
    exact ⟨rfl, HB.out⟩
  have cb0 : decide (s < 0) = false := decide_eq_false hneg
  obtain ⟨r, b, m0, m, rm, h1, h2, h3, h4, h5, h6, h7, h8, h9, h10, _⟩ := (HP.out.resolve_left hneg)
  have HT := Aside0.mk h1
  have HSP := Aside0.mk h2
  have HIM := Aside0.mk h3
  have HEQ := Aside0.mk h4
  have HEL := Aside0.mk h5
  have HM0 := Aside0.mk h6
  have HMT := Aside0.mk h8
  have HHE := Aside0.mk h9
  have c7b0 : decide (m0 < 0) = false := decide_eq_false (by omega)
  have c10b0 : decide (m < 0) = false := decide_eq_false (by omega)
  clear h1 h2 h3 h4 h5 h6 h7 h8 h9 h10 hneg HP
  go_wp2_with fail
  refine (laws_toIntSS.calls k A1 c1 l1 l1 w0 (Kd.C_below HR.out HB.out) HC.out HT.out).mono ?_
  rintro e w1 ⟨vT1, rfl, hs_, hb_⟩
  have hb2_ := hb_
  have hsz_T1 := HB.out.size
  have LE_w0 := Aside0.mk hsz_T1
  have T1 := Aside0.mk (Kd.S_mono (Kd.S_bound hs_) (ok' := fun k_ => w0.heap.size ≤ k_ ∧ k_ < w1.heap.size) (fun k_ hk => ⟨hk.2.1, hk.2.2.1⟩))
  have n_b := Aside0.mk (below_step HB.out hb_)
  have ZT1 := Aside0.mk (show w0.heap.size ≤ w1.heap.size from hb_.size)
  clear HB; have HB := n_b; clear n_b hs_ hb_ hb2_ hsz_T1
  obtain ⟨A_T1, c_T1, e_T1⟩ := Kd.R_slice (Kd.S_R T1.out)
  subst e_T1
  go_wp2_with fail
  refine (spec_WireOf.calls k a0 A_T1 c_T1 l1 a2 a3 r b w1 (Kd.S_reads' T1.out).2.2 (Kd.S_reads' T1.out).2.1 HSP.out).mono ?_
  rintro e w2 ⟨vW0, rfl, hs_, hb_⟩
  have hb2_ := hb_
  have n_T1 := Aside0.mk (Kd.S_below T1.out hb2_)
  clear T1; have T1 := n_T1; clear n_T1
  have hsz_W0 := HB.out.size
  have LE_w1 := Aside0.mk hsz_W0
  have W0 := Aside0.mk (Kd.S_mono (Kd.S_bound hs_) (ok' := fun k_ => w1.heap.size ≤ k_ ∧ k_ < w2.heap.size) (fun k_ hk => ⟨hk.2.1, hk.2.2.1⟩))
  have n_b := Aside0.mk (below_step HB.out hb_)
  have ZW0 := Aside0.mk (show w1.heap.size ≤ w2.heap.size from hb_.size)
  clear HB; have HB := n_b; clear n_b hs_ hb_ hb2_ hsz_W0
  obtain ⟨A_W0, c_W0, e_W0⟩ := Kd.R_slice (Kd.S_R W0.out)
  subst e_W0
  go_wp2_with fail
  refine (laws_toIntSS.calls k A1 c1 l1 l1 w2 (Kd.C_below HR.out HB.out) HC.out HT.out).mono ?_
  rintro e w3 ⟨vX0, rfl, hs_, hb_⟩
  have hb2_ := hb_
  have n_T1 := Aside0.mk (Kd.S_below T1.out hb2_)
  have n_W0 := Aside0.mk (Kd.S_below W0.out hb2_)
  clear T1; have T1 := n_T1; clear n_T1
  clear W0; have W0 := n_W0; clear n_W0
  have hsz_X0 := HB.out.size
  have LE_w2 := Aside0.mk hsz_X0
  have X0 := Aside0.mk (Kd.S_mono (Kd.S_bound hs_) (ok' := fun k_ => w2.heap.size ≤ k_ ∧ k_ < w3.heap.size) (fun k_ hk => ⟨hk.2.1, hk.2.2.1⟩))
  have n_b := Aside0.mk (below_step HB.out hb_)
  have ZX0 := Aside0.mk (show w2.heap.size ≤ w3.heap.size from hb_.size)
  clear HB; have HB := n_b; clear n_b hs_ hb_ hb2_ hsz_X0
  obtain ⟨A_X0, c_X0, e_X0⟩ := Kd.R_slice (Kd.S_R X0.out)
  subst e_X0
  go_wp2_with fail
  refine (impl_WireOf.calls k a0 A_X0 c_X0 l1 a2 a3 r b w3 (Kd.S_reads' X0.out).2.2 (Kd.S_reads' X0.out).2.1 HIM.out).mono ?_
  rintro e w4 ⟨vG0, rfl, hs_, hb_⟩
  have hb2_ := hb_
  have n_T1 := Aside0.mk (Kd.S_below T1.out hb2_)
  have n_W0 := Aside0.mk (Kd.S_below W0.out hb2_)
  have n_X0 := Aside0.mk (Kd.S_below X0.out hb2_)
  clear T1; have T1 := n_T1; clear n_T1
  clear W0; have W0 := n_W0; clear n_W0
  clear X0; have X0 := n_X0; clear n_X0
  have hsz_G0 := HB.out.size
  have LE_w3 := Aside0.mk hsz_G0
  have G0 := Aside0.mk (Kd.S_mono (Kd.S_bound hs_) (ok' := fun k_ => w3.heap.size ≤ k_ ∧ k_ < w4.heap.size) (fun k_ hk => ⟨hk.2.1, hk.2.2.1⟩))
  have n_b := Aside0.mk (below_step HB.out hb_)
  have ZG0 := Aside0.mk (show w3.heap.size ≤ w4.heap.size from hb_.size)
  clear HB; have HB := n_b; clear n_b hs_ hb_ hb2_ hsz_G0
  obtain ⟨A_G0, c_G0, e_G0⟩ := Kd.R_slice (Kd.S_R G0.out)
  subst e_G0
  go_wp2_with fail
  refine (laws_eqIntSS.calls k A_G0 c_G0 r A_W0 c_W0 r true w4 (Kd.S_reads' G0.out).2.2 (Kd.S_reads' G0.out).2.1 (Kd.S_reads' W0.out).2.2 (Kd.S_reads' W0.out).2.1 HEQ.out).mono ?_
  rintro e w5 ⟨rfl, hd_⟩
  have hb2_ := Drawn0.below hd_
  have n_T1 := Aside0.mk (Kd.S_below T1.out hb2_)
  have n_W0 := Aside0.mk (Kd.S_below W0.out hb2_)
  have n_X0 := Aside0.mk (Kd.S_below X0.out hb2_)
  have n_G0 := Aside0.mk (Kd.S_below G0.out hb2_)
  clear T1; have T1 := n_T1; clear n_T1
  clear W0; have W0 := n_W0; clear n_W0
  clear X0; have X0 := n_X0; clear n_X0
  clear G0; have G0 := n_G0; clear n_G0
  have n_b := Aside0.mk (below_step HB.out hb2_)
  clear HB; have HB := n_b; clear n_b hd_ hb2_
  go_wp2_with fail
  refine (laws_toIntSS.calls k A1 c1 l1 l1 w5 (Kd.C_below HR.out HB.out) HC.out HT.out).mono ?_
  rintro e w6 ⟨vT3, rfl, hs_, hb_⟩
  have hb2_ := hb_
  have n_T1 := Aside0.mk (Kd.S_below T1.out hb2_)
  have n_W0 := Aside0.mk (Kd.S_below W0.out hb2_)
  have n_X0 := Aside0.mk (Kd.S_below X0.out hb2_)
  have n_G0 := Aside0.mk (Kd.S_below G0.out hb2_)
  clear T1; have T1 := n_T1; clear n_T1
  clear W0; have W0 := n_W0; clear n_W0
  clear X0; have X0 := n_X0; clear n_X0
  clear G0; have G0 := n_G0; clear n_G0
  have hsz_T3 := HB.out.size
  have LE_w5 := Aside0.mk hsz_T3
  have T3 := Aside0.mk (Kd.S_mono (Kd.S_bound hs_) (ok' := fun k_ => w5.heap.size ≤ k_ ∧ k_ < w6.heap.size) (fun k_ hk => ⟨hk.2.1, hk.2.2.1⟩))
  have n_b := Aside0.mk (below_step HB.out hb_)
  have ZT3 := Aside0.mk (show w5.heap.size ≤ w6.heap.size from hb_.size)
  clear HB; have HB := n_b; clear n_b hs_ hb_ hb2_ hsz_T3
  obtain ⟨A_T3, c_T3, e_T3⟩ := Kd.R_slice (Kd.S_R T3.out)
  subst e_T3
  go_wp2_with fail
  refine (laws_eqIntSS.calls k A_X0 c_X0 l1 A_T3 c_T3 l1 true w6 (Kd.S_reads' X0.out).2.2 (Kd.S_reads' X0.out).2.1 (Kd.S_reads' T3.out).2.2 (Kd.S_reads' T3.out).2.1 HEL.out).mono ?_
  rintro e w7 ⟨rfl, hd_⟩
  have hb2_ := Drawn0.below hd_
  have n_T1 := Aside0.mk (Kd.S_below T1.out hb2_)
  have n_W0 := Aside0.mk (Kd.S_below W0.out hb2_)
  have n_X0 := Aside0.mk (Kd.S_below X0.out hb2_)
  have n_G0 := Aside0.mk (Kd.S_below G0.out hb2_)
  have n_T3 := Aside0.mk (Kd.S_below T3.out hb2_)
  clear T1; have T1 := n_T1; clear n_T1
  clear W0; have W0 := n_W0; clear n_W0
  clear X0; have X0 := n_X0; clear n_X0
  clear G0; have G0 := n_G0; clear n_G0
  clear T3; have T3 := n_T3; clear n_T3
  have n_b := Aside0.mk (below_step HB.out hb2_)
  clear HB; have HB := n_b; clear n_b hd_ hb2_
  go_wp2_with fail
  refine (laws_markIntSS.calls k _ _ l1 1 m0 w w7 HB.out (Kd.S_R (Kd.S_lower X0.out (by have := LE_w2.out; omega))) HM0.out).mono ?_
  rintro e w8 ⟨rfl, hb_, hk_⟩
  have n_W0 := Aside0.mk (Kd.S_kept W0.out hk_ (fun k_ h1_ h2_ => by obtain ⟨a_, b_⟩ := h1_; obtain ⟨c_, d_⟩ := h2_; have z1 := ZX0.out; omega))
  have n_G0 := Aside0.mk (Kd.S_kept G0.out hk_ (fun k_ h1_ h2_ => by obtain ⟨a_, b_⟩ := h1_; obtain ⟨c_, d_⟩ := h2_; have z1 := ZX0.out; omega))
  have HB2 := Aside0.mk hb_
  clear W0; have W0 := n_W0; clear n_W0
  clear G0; have G0 := n_G0; clear n_G0
  clear HB; have HB := HB2; clear HB2 hb_ hk_ X0 T1 T3
  go_wp2_with fail
  refine (laws_eqIntSS.calls k A_G0 c_G0 r A_W0 c_W0 r true w8 (Kd.S_reads' G0.out).2.2 (Kd.S_reads' G0.out).2.1 (Kd.S_reads' W0.out).2.2 (Kd.S_reads' W0.out).2.1 HEQ.out).mono ?_
  rintro e w9 ⟨rfl, hd_⟩
  have hb2_ := Drawn0.below hd_
  have n_W0 := Aside0.mk (Kd.S_below W0.out hb2_)
  have n_G0 := Aside0.mk (Kd.S_below G0.out hb2_)
  clear W0; have W0 := n_W0; clear n_W0
  clear G0; have G0 := n_G0; clear n_G0
  have n_b := Aside0.mk (below_step HB.out hb2_)
  clear HB; have HB := n_b; clear n_b hd_ hb2_
  go_wp2_with fail
  refine (marksSS.calls k _ _ r 1 m rm w w9 HB.out (Kd.S_lower G0.out (by have := LE_w3.out; omega)) HMT.out).mono ?_
  rintro e w10 ⟨rfl, hs_, hb_, hk_⟩
  have n_W0 := Aside0.mk (Kd.S_kept W0.out hk_ (fun k_ h1_ h2_ => by obtain ⟨a_, b_⟩ := h1_; obtain ⟨c_, d_⟩ := h2_; have z1 := ZX0.out; omega))
  have HB2 := Aside0.mk hb_
  have n_G0 := Aside0.mk hs_
  have HLN := Aside0.mk (Kd.S_reads' hs_).1
  clear W0; have W0 := n_W0; clear n_W0
  clear G0; have G0 := n_G0; clear n_G0
  clear HB; have HB := HB2; clear HB2 hb_ hk_ hs_
  have G0C := Aside0.mk (show Kd.C (Kd.slice 3 (Kd.int .i64)) w10 A_G0 rm.length rm ∧ rm.length ≤ c_G0 from ⟨(Kd.S_reads' G0.out).2.2, by have := (Kd.S_reads' G0.out).2.1; have := HLN.out; omega⟩)
  clear G0
  go_wp2_with fail
  have hcall_ := laws_heldIntSS.calls k A_G0 c_G0 rm 1 m w10 G0C.out.1 G0C.out.2 HHE.out
  rw [← HLN.out] at hcall_
  refine hcall_.mono ?_
  clear hcall_
  rintro e w11 ⟨rfl, hd_⟩
  have hb2_ := Drawn0.below hd_
  have n_W0 := Aside0.mk (Kd.S_below W0.out hb2_)
  clear W0; have W0 := n_W0; clear n_W0
  have n_G := Aside0.mk (show _ ∧ rm.length ≤ c_G0 from ⟨Kd.C_below G0C.out.1 hb2_, G0C.out.2⟩)
  have n_b := Aside0.mk (below_step HB.out hb2_)
  clear HB G0C; have HB := n_b; have G0C := n_G; clear n_b n_G hd_ hb2_
  go_wp2_with fail
  refine (laws_toIntSS.calls k A1 c1 l1 l1 w11 (Kd.C_below HR.out HB.out) HC.out HT.out).mono ?_
  rintro e w12 ⟨vT4, rfl, hs_, hb_⟩
  have hb2_ := hb_
  have n_G := Aside0.mk (show _ ∧ rm.length ≤ c_G0 from ⟨Kd.C_below G0C.out.1 hb2_, G0C.out.2⟩)
  clear G0C; have G0C := n_G; clear n_G
  have n_W0 := Aside0.mk (Kd.S_below W0.out hb2_)
  clear W0; have W0 := n_W0; clear n_W0
  have hsz_T4 := HB.out.size
  have LE_w11 := Aside0.mk hsz_T4
  have T4 := Aside0.mk (Kd.S_mono (Kd.S_bound hs_) (ok' := fun k_ => w11.heap.size ≤ k_ ∧ k_ < w12.heap.size) (fun k_ hk => ⟨hk.2.1, hk.2.2.1⟩))
  have n_b := Aside0.mk (below_step HB.out hb_)
  have ZT4 := Aside0.mk (show w11.heap.size ≤ w12.heap.size from hb_.size)
  clear HB; have HB := n_b; clear n_b hs_ hb_ hb2_ hsz_T4
  obtain ⟨A_T4, c_T4, e_T4⟩ := Kd.R_slice (Kd.S_R T4.out)
  subst e_T4
  go_wp2_with fail
  refine (impl_WireOf.calls k a0 A_T4 c_T4 l1 a2 a3 r b w12 (Kd.S_reads' T4.out).2.2 (Kd.S_reads' T4.out).2.1 HIM.out).mono ?_
  rintro e w13 ⟨vH0, rfl, hs_, hb_⟩
  have hb2_ := hb_
  have n_G := Aside0.mk (show _ ∧ rm.length ≤ c_G0 from ⟨Kd.C_below G0C.out.1 hb2_, G0C.out.2⟩)
  clear G0C; have G0C := n_G; clear n_G
  have n_W0 := Aside0.mk (Kd.S_below W0.out hb2_)
  have n_T4 := Aside0.mk (Kd.S_below T4.out hb2_)
  clear W0; have W0 := n_W0; clear n_W0
  clear T4; have T4 := n_T4; clear n_T4
  have hsz_H0 := HB.out.size
  have LE_w12 := Aside0.mk hsz_H0
  have H0 := Aside0.mk (Kd.S_mono (Kd.S_bound hs_) (ok' := fun k_ => w12.heap.size ≤ k_ ∧ k_ < w13.heap.size) (fun k_ hk => ⟨hk.2.1, hk.2.2.1⟩))
  have n_b := Aside0.mk (below_step HB.out hb_)
  have ZH0 := Aside0.mk (show w12.heap.size ≤ w13.heap.size from hb_.size)
  clear HB; have HB := n_b; clear n_b hs_ hb_ hb2_ hsz_H0
  obtain ⟨A_H0, c_H0, e_H0⟩ := Kd.R_slice (Kd.S_R H0.out)
  subst e_H0
  go_wp2_with fail
  refine (laws_eqIntSS.calls k A_H0 c_H0 r A_W0 c_W0 r true w13 (Kd.S_reads' H0.out).2.2 (Kd.S_reads' H0.out).2.1 (Kd.S_reads' W0.out).2.2 (Kd.S_reads' W0.out).2.1 HEQ.out).mono ?_
  rintro e w14 ⟨rfl, hd_⟩
  have hb2_ := Drawn0.below hd_
  have n_G := Aside0.mk (show _ ∧ rm.length ≤ c_G0 from ⟨Kd.C_below G0C.out.1 hb2_, G0C.out.2⟩)
  clear G0C; have G0C := n_G; clear n_G
  have n_W0 := Aside0.mk (Kd.S_below W0.out hb2_)
  have n_T4 := Aside0.mk (Kd.S_below T4.out hb2_)
  have n_H0 := Aside0.mk (Kd.S_below H0.out hb2_)
  clear W0; have W0 := n_W0; clear n_W0
  clear T4; have T4 := n_T4; clear n_T4
  clear H0; have H0 := n_H0; clear n_H0
  have n_b := Aside0.mk (below_step HB.out hb2_)
  clear HB; have HB := n_b; clear n_b hd_ hb2_
  go_wp2_with fail
  have hcall_ := laws_heldIntSS.calls k A_G0 c_G0 rm 1 m w14 G0C.out.1 G0C.out.2 HHE.out
  rw [← HLN.out] at hcall_
  refine hcall_.mono ?_
  clear hcall_
  rintro e w15 ⟨rfl, hd_⟩
  have hb2_ := Drawn0.below hd_
  have n_W0 := Aside0.mk (Kd.S_below W0.out hb2_)
  have n_T4 := Aside0.mk (Kd.S_below T4.out hb2_)
  have n_H0 := Aside0.mk (Kd.S_below H0.out hb2_)
  clear W0; have W0 := n_W0; clear n_W0
  clear T4; have T4 := n_T4; clear n_T4
  clear H0; have H0 := n_H0; clear n_H0
  have n_G := Aside0.mk (show _ ∧ rm.length ≤ c_G0 from ⟨Kd.C_below G0C.out.1 hb2_, G0C.out.2⟩)
  have n_b := Aside0.mk (below_step HB.out hb2_)
  clear HB G0C; have HB := n_b; have G0C := n_G; clear n_b n_G hd_ hb2_
  go_wp2
  go_ret
  exact ⟨rfl, HB.out⟩

end Go.Proofs.Ytmokeeakgacadaa.XFnExactWireOf
