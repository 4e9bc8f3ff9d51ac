/- What functions of the program compute, as plain Lean functions, and that Go's calls come to just that: written by wip/tools/xprint.py for the law FnExactTurnedPieces. -/
import Derived.Test.YtcmmammefghjdaaXFnExactTurnedPiecesx0
import Derived.Test.YtcmmammefghjdaaXFnExactTurnedPiecesx1
import Derived.Test.YtcmmammefghjdaaXFnExactTurnedPiecesx3
import Derived.Test.YtcmmammefghjdaaXFnExactTurnedPiecesx4
namespace Go.Proofs.Ytcmmammefghjdaa.XFnExactTurnedPieces
open Go.RowKit Go.Proofs.YtcmmammefghjdaaW.PrintWords Go.Proofs.YtcmmammefghjdaaW.PrintLast Go.Proofs.YtcmmammefghjdaaW.PrintMore
attribute [local go_sem] max2_int min2_int max_two min_two max_three min_three max_four min_four   -- for this text's walks alone
set_option linter.unusedVariables false
set_option linter.unusedSimpArgs false

/-! ### laws_markIntSS: function 49 -/
/-- Marks of a row: how many, from a on. -/
def mk.l0 : Nat → Nat → Int → Int → Option Int
  | 0, _, _, _ => none
  | k + 1, n, a, i => if i < (n : Int) then (if 0 ≤ i then (mk.l0 k n (wrap64 (a + 1)) (wrap64 (i + 1))) else none) else (some a)
theorem mk.mono_l : ∀ k, (∀ y0 y1 y2, LeO (mk.l0 k y0 y1 y2) (mk.l0 (k + 1) y0 y1 y2))
  | 0 => fun _ _ _ r h => by simp [mk.l0] at h
  | k + 1 => by
    have ih0 := mk.mono_l k
    intro y0 y1 y2
    unfold mk.l0
    repeat' first
      | (with_reducible exact ih0 _ _ _)
      | (with_reducible exact LeO.refl _)
      | (with_reducible exact LeO.none _)
      | (with_reducible refine LeO.ite ?_ ?_)
      | exact ih0 _ _ _
def laws_markIntSS.l0 : Nat → List (List Int) → Int → Int → Option Int
  | 0, _, _, _ => none
  | k + 1, l, a, i => if i < (l.length : Int) then (if 0 ≤ i then ((mk.l0 k (rd_L1 l i).length a 0).bind fun t => (laws_markIntSS.l0 k l t (wrap64 (i + 1)))) else none) else (some a)
theorem laws_markIntSS.mono_l : ∀ k, (∀ y0 y1 y2, LeO (laws_markIntSS.l0 k y0 y1 y2) (laws_markIntSS.l0 (k + 1) y0 y1 y2))
  | 0 => fun _ _ _ r h => by simp [laws_markIntSS.l0] at h
  | k + 1 => by
    have ih0 := laws_markIntSS.mono_l k
    intro y0 y1 y2
    unfold laws_markIntSS.l0
    repeat' first
      | (with_reducible exact ih0 _ _ _)
      | (with_reducible exact mk.mono_l _ _ _ _)
      | (with_reducible exact LeO.refl _)
      | (with_reducible exact LeO.none _)
      | (with_reducible refine LeO.ite ?_ ?_)
      | (with_reducible refine LeO.bind ?_ (fun _ => ?_))
def laws_markIntSS.f (k : Nat) (l0 : List (List Int)) (a1 : Int) : Option Int := laws_markIntSS.l0 k l0 a1 0
theorem laws_markIntSS.mono : ∀ a0 a1 k, LeO (laws_markIntSS.f k a0 a1) (laws_markIntSS.f (k + 1) a0 a1) := fun a0 a1 k => laws_markIntSS.mono_l k _ _ _
theorem R_int_set {W : World} {base : Nat} {P : Nat → Prop} {v : Value} {xs : List Int} (h : Kd.R (Kd.int .i64) 3 W base P v xs) (b i : Nat) (x : Int) : ∃ xs', xs'.length = xs.length ∧ Kd.R (Kd.int .i64) 3 (W.setCell ⟨b, i, none⟩ (.int .i64 x)) base P v xs' := by
  by_cases hb : v.ownBlock = some b
  · obtain ⟨inner, ho⟩ := Kd.R_own h
    rcases ho.2 with ⟨e, _⟩ | ⟨g, cap, cur, e, _⟩
    · rw [e] at hb; simp [Value.ownBlock] at hb
    · subst e
      have e2 : g = b := by simpa [Value.ownBlock] using hb
      subst e2
      have := (Kd.R_putg h (i : Int) x).1
      rw [Int.toNat_natCast] at this
      exact ⟨xs.set i x, by simp, this⟩
  · have h' : Kd.R (Kd.int .i64) 3 W base (fun k => v.ownBlock = some k) v xs := ⟨fun k hk => hk, h.2⟩
    exact ⟨xs, rfl, Kd.R_mono (Kd.R_far h' (p := ⟨b, i, none⟩) (fun k hk e => hb (by rw [hk]; exact congrArg some e)) _) (fun k hk => h.1 k hk)⟩
/-- The rows that are marked: their lengths stay. -/
structure MkInv (base : Nat) (P : Nat → Prop) (g : Nat) (cur : Array Value) (l0 : List (List Int)) (W : World) : Prop where
  hg : W.heap[g]? = some (.cells cur 22 (0, 0))
  hr : ∀ (j : Nat) (hj : j < l0.length), ∃ A c xs, cur[j]? = some (.slice A (l0[j]).length c) ∧ xs.length = (l0[j]).length ∧ Kd.R (Kd.int .i64) 3 W base P (.slice A (l0[j]).length c) xs
theorem MkInv.start {w : World} {base : Nat} {P : Nat → Prop} {u : Value} {l0 : List (List Int)} (h : Kd.R (Kd.slice 3 (Kd.int .i64)) 22 w base P u l0) (hl : 0 < l0.length) : ∃ g cap cur, u = .slice (some ⟨g, 0, none⟩) l0.length cap ∧ MkInv base P g cur l0 w := by
  obtain ⟨h0, inner, ho, hr⟩ := h
  rcases ho.2 with ⟨_, hn⟩ | ⟨g, cap, cur, rfl, hb, hh, hc1, hc2, hc3, hc4⟩
  · omega
  · refine ⟨g, cap, cur, rfl, hh, fun j hj => ?_⟩
    obtain ⟨v, hv, hR⟩ := hr.2 j l0[j] (by simp [hj])
    obtain ⟨A, c, rfl⟩ := Kd.R_slice hR
    refine ⟨A, c, l0[j], ?_, rfl, Kd.R_mono hR (fun k hk => hk.1)⟩
    have hv' : ((cur.toList.take (l0.length * 1)).drop (j * 1)).take 1 = [.slice A (l0[j]).length c] := by
      have : cur.toList.take (l0.length * 1) = inner := hc4
      rw [this]
      exact hv
    have := congrArg (fun l : List Value => l[0]?) hv'
    simpa [List.getElem?_take, List.getElem?_drop, hj] using this
theorem MkInv.set {W : World} {base g : Nat} {P : Nat → Prop} {cur : Array Value} {l0 : List (List Int)} (h : MkInv base P g cur l0 W) (b i : Nat) (x : Int) (hb : ∃ c, W.heap[b]? = some (.cells c 3 (0, 0))) : MkInv base P g cur l0 (W.setCell ⟨b, i, none⟩ (.int .i64 x)) := by
  refine ⟨(Below.heap_setCell W ⟨b, i, none⟩ _ g (fun e => ?_)).trans h.hg, fun j hj => ?_⟩
  · obtain ⟨c, hc⟩ := hb
    have e2 : g = b := e
    rw [← e2, h.hg] at hc
    injection hc with hc
    injection hc with _ hc
    exact absurd hc (by decide)
  · obtain ⟨A, c, xs, h1, h2, h3⟩ := h.hr j hj
    obtain ⟨xs', h4, h5⟩ := R_int_set h3 b i x
    exact ⟨A, c, xs', h1, h4.trans h2, h5⟩
set_option maxHeartbeats 2000000 in
set_option maxRecDepth 100000 in
theorem mk.calls (Inv : World → Prop) (P0_ : Nat → Prop) (base : Nat) (hset : ∀ (W : World) (b i : Nat) (x : Int), Inv W → P0_ b → base ≤ b → (∃ c, W.heap[b]? = some (.cells c 3 (0, 0))) → Inv (W.setCell ⟨b, i, none⟩ (.int .i64 x))) (k : Nat) (v : Value) (xs : List Int) (a1 r : Int) (w : World) (hi : Inv w) (ho : Kd.R (Kd.int .i64) 3 w base P0_ v xs) (h : mk.l0 k xs.length a1 0 = some r) :
    Calls Try.prog 32 #[v, .int .i64 a1] w fun e w' => e = .returned (.int .i64 r) ∧ Inv w' := by
  obtain ⟨A, c, rfl⟩ := Kd.R_slice ho
  have HS := Aside0.mk hset
  have HI := Aside0.mk hi
  have HO := Aside0.mk ho
  have H' := Aside0.mk h
  clear hset hi ho h
  go_enter Try.func32, Try.ntmps32
  go_wp2
  go_loopg [1, 5] k (fun kq v1 v5 w' => ∃ (x0_1 : List Int) (x1_1 : Int) (x5_1 : Int), v1 = .int .i64 x1_1 ∧ v5 = .int .i64 x5_1 ∧ Aside0 (x0_1.length = xs.length) ∧ Aside0 (mk.l0 kq xs.length x1_1 x5_1 = some r) ∧ Aside0 (kq ≤ k) ∧ Aside0 (Kd.R (Kd.int .i64) 3 w' base P0_ (.slice A xs.length c) x0_1) ∧ Aside0 (Inv w'))
  case atStart => exact ⟨xs, a1, 0, rfl, rfl, ⟨rfl⟩, H', ⟨Nat.le_refl _⟩, HO, HI⟩
  case round =>
    clear H' HO HI
    obtain ⟨x0_1, x1_1, x5_1, rfl, rfl, HL, HA, HK1, HO, HI⟩ := hrel
    cases gk with
    | zero => exact absurd HA.out (by simp [mk.l0])
    | succ k1 =>
      have H := HA.out
      clear HA
      simp only [mk.l0] at H
      by_cases c3 : x5_1 < (xs.length : Int)
      · rw [if_pos c3] at H
        have c3b0 : decide (x5_1 < (xs.length : Int)) = true := decide_eq_true c3
        by_cases c4 : 0 ≤ x5_1
        · rw [if_pos c4] at H
          have c4b0 : decide (0 ≤ x5_1) = true := decide_eq_true c4
          have H' := Aside0.mk H
          clear H
          obtain ⟨go5, co5, eo5, gb5, gl5, cl5, HG5⟩ := Kd.R_form HO.out (by have := HL.out; omega)
          have HM := Aside0.mk (HO.out.1 go5 (by rw [eo5]; rfl))
          have GB5 := Aside0.mk gb5
          have HG := Aside0.mk (show ∃ c, wr.heap[go5]? = some (.cells c 3 (0, 0)) from ⟨cl5, HG5⟩)
          (first | cases eo5 | (injection eo5 with ea_ en_ ec_; subst ea_; subst ec_; clear en_))
          clear gb5 gl5 HG5
          obtain ⟨hx5_0, hf5_0⟩ := Kd.R_celln 0 HO.out (x5_1 : Int) c4 c3
          replace c3 := eq_true c3
          replace c4 := eq_true c4
          have HPS := Aside0.mk (Kd.R_putg HO.out (x5_1 : Int) x1_1).1
          have HIS := Aside0.mk (HS.out _ go5 (x5_1 : Int).toNat x1_1 HI.out HM.out GB5.out HG.out)
          go_wp2_with fail
          go_roundg k1
          case measure => have := HK1.out; omega
          case rel => exact ⟨x0_1.set (x5_1 : Int).toNat x1_1, wrap64 (x1_1 + 1), wrap64 (x5_1 + 1), by first | rfl | (simp; done), by first | rfl | (simp; done), ⟨by rw [List.length_set]; exact HL.out⟩, H', ⟨by have := HK1.out; omega⟩, HPS, HIS⟩
        · rw [if_neg c4] at H
          exact absurd H (by simp)
      · rw [if_neg c3] at H
        have c3b0 : decide (x5_1 < (xs.length : Int)) = false := decide_eq_false c3
        clear c3
        obtain rfl := Option.some.inj H
        go_wp2
        go_ret
        exact ⟨rfl, HI.out⟩
set_option maxHeartbeats 2000000 in
set_option maxRecDepth 100000 in
theorem laws_markIntSS.calls (k : Nat) (P0_ : Nat → Prop) (u : Value) (l0 : List (List Int)) (a1 r : Int) (w0 w : World) (hB : Below w0.heap.size w0 w) (ho : Kd.R (Kd.slice 3 (Kd.int .i64)) 22 w w0.heap.size P0_ u l0) (h : laws_markIntSS.f k l0 a1 = some r) :
    Calls Try.prog 49 #[u, .int .i64 a1] w fun e w' => e = .returned (.int .i64 r) ∧ Below w0.heap.size w0 w' ∧ Kept w w' P0_ := by
  have H' := Aside0.mk (show laws_markIntSS.l0 k l0 a1 0 = some r from h)
  have HB := Aside0.mk hB
  by_cases hl : 0 < l0.length
  · obtain ⟨g, cap, cur, rfl, hi⟩ := MkInv.start ho hl
    have HI := Aside0.mk (show MkInv w0.heap.size P0_ g cur l0 w ∧ Below w0.heap.size w0 w ∧ Kept w w P0_ from ⟨hi, hB, Kept.refl w P0_⟩)
    clear h ho hB hi
    go_enter Try.func49, Try.ntmps49
    go_wp2
    go_loopg [1, 5] k (fun kq v1 v5 w' => ∃ (x1_1 : Int) (x5_1 : Int), v1 = .int .i64 x1_1 ∧ v5 = .int .i64 x5_1 ∧ Aside0 (laws_markIntSS.l0 kq l0 x1_1 x5_1 = some r) ∧ Aside0 (kq ≤ k) ∧ Aside0 (MkInv w0.heap.size P0_ g cur l0 w' ∧ Below w0.heap.size w0 w' ∧ Kept w w' P0_))
    case atStart => exact ⟨a1, 0, rfl, rfl, H', ⟨Nat.le_refl _⟩, HI⟩
    case round =>
      clear H' HI
      obtain ⟨x1_1, x5_1, rfl, rfl, HA, HK1, HI⟩ := hrel
      cases gk with
      | zero => exact absurd HA.out (by simp [laws_markIntSS.l0])
      | succ k1 =>
        have H := HA.out
        clear HA
        simp only [laws_markIntSS.l0] at H
        by_cases c3 : x5_1 < (l0.length : Int)
        · rw [if_pos c3] at H
          have c3b0 : decide (x5_1 < (l0.length : Int)) = true := decide_eq_true c3
          by_cases c4 : 0 ≤ x5_1
          · rw [if_pos c4] at H
            have c4b0 : decide (0 ≤ x5_1) = true := decide_eq_true c4
            obtain ⟨t, ht, H⟩ := Option.bind_eq_some_iff.mp H
            have HT := Aside0.mk ht
            have H' := Aside0.mk H
            clear ht H
            obtain ⟨A, c, xs, hcell, hxl, hxr⟩ := HI.out.1.hr (x5_1 : Int).toNat (by omega)
            have hrd : rd_L1 l0 x5_1 = l0[(x5_1 : Int).toNat]'(by omega) := by simp [rd_L1, List.getD_eq_getElem?_getD, show (x5_1 : Int).toNat < l0.length by omega]
            have hx5_0 : wr.cell? ⟨g, (x5_1 : Int).toNat, none⟩ = some (.slice A (l0[(x5_1 : Int).toNat]'(by omega)).length c) := by
              simp [World.cell?, HI.out.1.hg, hcell]
            rw [hrd, ← hxl] at HT
            rw [← hxl] at hx5_0 hxr
            have HXR := Aside0.mk hxr
            clear hcell hxr hxl hrd
            replace c3 := eq_true c3
            replace c4 := eq_true c4
            go_wp2_with fail
            refine (mk.calls (fun W => MkInv w0.heap.size P0_ g cur l0 W ∧ Below w0.heap.size w0 W ∧ Kept w W P0_) P0_ w0.heap.size (fun W b i x hI hP hb hc => ⟨hI.1.set b i x hc, below_set hI.2.1 hb, Kept.setCell hI.2.2 (p := ⟨b, i, none⟩) (.inl hP) _⟩) k1 _ xs x1_1 t _ HI.out HXR.out HT.out).mono ?_
            rintro e w1 ⟨rfl, hi1⟩
            have HI1 := Aside0.mk hi1
            clear hi1
            go_wp2
            go_roundg k1
            case measure => have := HK1.out; omega
            case rel => exact ⟨t, wrap64 (x5_1 + 1), by first | rfl | (simp; done), by first | rfl | (simp; done), H', ⟨by have := HK1.out; omega⟩, HI1⟩
          · rw [if_neg c4] at H
            exact absurd H (by simp)
        · rw [if_neg c3] at H
          have c3b0 : decide (x5_1 < (l0.length : Int)) = false := decide_eq_false c3
          clear c3
          obtain rfl := Option.some.inj H
          go_wp2
          go_ret
          exact ⟨rfl, HI.out.2⟩
  · obtain rfl : l0 = [] := List.length_eq_zero_iff.mp (by omega)
    obtain ⟨A, c, rfl⟩ := Kd.R_slice ho
    clear h ho hB hl
    obtain ⟨k, rfl⟩ : ∃ m, k = m + 1 := by
      cases k with
      | zero => exact absurd H'.out (by simp [laws_markIntSS.l0])
      | succ m => exact ⟨m, rfl⟩
    have h := H'.out
    simp only [laws_markIntSS.l0, List.length_nil, Int.lt_irrefl, Int.ofNat_zero, if_false] at h
    obtain rfl := Option.some.inj h
    clear h H'
    go_enter Try.func49, Try.ntmps49
    go_wp2
    go_loopg [1, 5] 1 (fun kq v1 v5 w' => v1 = .int .i64 a1 ∧ v5 = .int .i64 0 ∧ w' = w)
    case atStart => exact ⟨rfl, rfl, rfl⟩
    case round =>
      obtain ⟨rfl, rfl, rfl⟩ := hrel
      go_wp2
      go_ret
      exact ⟨rfl, HB.out, Kept.refl _ _⟩

/-! ### laws_heldIntS: function 33 -/
def laws_heldIntS.l0 : Nat → List Int → Int → Int → Option (Int)
  | 0, _, _, _ => none
  | k + 1, x0, x1, x5 => if x5 < (x0.length : Int) then (if 0 ≤ x5 then (if (rd x0 x5) = x1 then (laws_heldIntS.l0 k x0 (wrap64 (x1 + 1)) (wrap64 (x5 + 1))) else (some (-1))) else (none)) else (some x1)
def laws_heldIntS.f (k : Nat) (l0 : List Int) (a1 : Int) : Option (Int) := laws_heldIntS.l0 k l0 a1 0
theorem laws_heldIntS.mono_l : ∀ k, (∀ y0 y1 y2, LeO (laws_heldIntS.l0 k y0 y1 y2) (laws_heldIntS.l0 (k + 1) y0 y1 y2))
  | 0 => fun _ _ _ r h => by simp [laws_heldIntS.l0] at h
  | k + 1 => by
    have ih0 := laws_heldIntS.mono_l k
    · intro y0 y1 y2
      unfold laws_heldIntS.l0
      repeat' first
      | (with_reducible exact ih0 _ _ _)
      | (with_reducible exact LeO.refl _)
      | (with_reducible exact LeO.none _)
      | (with_reducible refine LeO.ite ?_ ?_)
      | (with_reducible refine LeO.bind ?_ (fun _ => ?_))
      | exact ih0 _ _ _
      | exact LeO.none _
      | refine LeO.ite ?_ ?_
      | refine LeO.bind ?_ (fun _ => ?_)
theorem laws_heldIntS.mono : ∀ a0 a1 k, LeO (laws_heldIntS.f k a0 a1) (laws_heldIntS.f (k + 1) a0 a1) := by
  intro a0 a1 k
  have ih0 := laws_heldIntS.mono_l k
  unfold laws_heldIntS.f
  repeat' first
      | (with_reducible exact ih0 _ _ _)
      | (with_reducible exact LeO.refl _)
      | (with_reducible exact LeO.none _)
      | (with_reducible refine LeO.ite ?_ ?_)
      | (with_reducible refine LeO.bind ?_ (fun _ => ?_))
      | exact ih0 _ _ _
      | exact LeO.none _
      | refine LeO.ite ?_ ?_
      | refine LeO.bind ?_ (fun _ => ?_)
set_option maxHeartbeats 8000000 in
set_option maxRecDepth 100000 in
theorem laws_heldIntS.calls (k : Nat) (A0 : Option Addr) (c0 : Nat) (l0 : List Int) (a1 : Int) (r : Int) (w : World) (hr0 : Kd.C (Kd.int .i64) w A0 l0.length l0) (hc0 : l0.length ≤ c0) (h : laws_heldIntS.f k l0 a1 = some r) :
    Calls Try.prog 33 #[.slice A0 l0.length c0, .int .i64 a1] w fun e w' => e = .returned (.int .i64 r) ∧ Drawn0 w w' := by
  have HR0 := Aside0.mk hr0
  have HC0 := Aside0.mk hc0
  clear hr0 hc0
  have H : (laws_heldIntS.l0 k l0 a1 0) = some r := h
  clear h
  have H' := Aside0.mk H
  clear H
  go_enter Try.func33, Try.ntmps33
  go_wp2
  go_loopg [1, 5] k (fun kq v1 v5 w' => ∃ (x1_1 : Int) (x5_1 : Int), v1 = .int .i64 x1_1 ∧ v5 = .int .i64 x5_1 ∧ Aside0 (laws_heldIntS.l0 kq l0 x1_1 x5_1 = some r) ∧ Aside0 (kq ≤ k) ∧ Drawn0 w w')
  case atStart => exact ⟨(a1), (0), (by first | rfl | (simp; done) | (simp [*]; done)), (by first | rfl | (simp; done) | (simp [*]; done)), H', ⟨Nat.le_refl _⟩, by repeat (first | exact Drawn0.refl _ | apply Drawn0.step)⟩
  case round =>
    clear H'
    try clear p2
    obtain ⟨x1_1, x5_1, rfl, rfl, HA, HK1, ⟨m1, rfl⟩⟩ := hrel
    cases gk with
    | zero => exact absurd HA.out (by simp [laws_heldIntS.l0])
    | succ k1 =>
      have H := HA.out
      clear HA
      simp only [laws_heldIntS.l0] at H
      by_cases c3 : x5_1 < (l0.length : Int)
      · rw [if_pos c3] at H
        have c3b0 : decide (x5_1 < (l0.length : Int)) = true := decide_eq_true c3
        clear c3
        by_cases c4 : 0 ≤ x5_1
        · rw [if_pos c4] at H
          have c4b0 : decide (0 ≤ x5_1) = true := decide_eq_true c4
          clear c4
          by_cases c5 : (rd l0 x5_1) = x1_1
          · rw [if_pos c5] at H
            have c5b0 : ((rd l0 x5_1) == x1_1) = true := beq_iff_eq.mpr c5
            have c5b1 : ((rd l0 x5_1) != x1_1) = false := bne_eq_false_iff_eq.mpr c5
            clear c5
            have H' := Aside0.mk H
            clear H
            have p177 : 0 ≤ (x5_1 : Int) := of_decide_eq_true (by first | (with_reducible assumption) | assumption)
            have q177 : x5_1 < (l0.length : Int) := of_decide_eq_true (by first | (with_reducible assumption) | assumption)
            obtain ⟨ad177, e177, hx177_0⟩ := Kd.at_int HR0.out x5_1 p177 q177
            cases e177
            replace p177 := eq_true p177
            replace q177 := eq_true q177
            go_wp2
            go_roundg k1
            case measure => have := HK1.out; omega
            case rel => exact ⟨(wrap64 (x1_1 + 1)), (wrap64 (x5_1 + 1)), (by first | rfl | (simp; done) | (simp [*]; done)), (by first | rfl | (simp; done) | (simp [*]; done)), H', ⟨by have := HK1.out; omega⟩, by repeat (first | exact Drawn0.refl _ | apply Drawn0.step)⟩
          · rw [if_neg c5] at H
            have c5b0 : ((rd l0 x5_1) == x1_1) = false := beq_eq_false_iff_ne.mpr c5
            have c5b1 : ((rd l0 x5_1) != x1_1) = true := bne_iff_ne.mpr c5
            obtain rfl := Option.some.inj H
            have p177 : 0 ≤ (x5_1 : Int) := of_decide_eq_true (by first | (with_reducible assumption) | assumption)
            have q177 : x5_1 < (l0.length : Int) := of_decide_eq_true (by first | (with_reducible assumption) | assumption)
            obtain ⟨ad177, e177, hx177_0⟩ := Kd.at_int HR0.out x5_1 p177 q177
            cases e177
            replace p177 := eq_true p177
            replace q177 := eq_true q177
            go_wp2
            go_ret
            exact ⟨by first | rfl | (simp; done) | (simp [*]; done), by repeat (first | exact Drawn0.refl _ | apply Drawn0.step)⟩
        · rw [if_neg c4] at H
          exact absurd H (by simp)
      · rw [if_neg c3] at H
        have c3b0 : decide (x5_1 < (l0.length : Int)) = false := decide_eq_false c3
        clear c3
        obtain rfl := Option.some.inj H
        go_wp2
        go_ret
        exact ⟨by first | rfl | (simp; done) | (simp [*]; done), by repeat (first | exact Drawn0.refl _ | apply Drawn0.step)⟩

/-! ### laws_heldIntSS: function 50 -/
def laws_heldIntSS.l0 : Nat → List (List Int) → Int → Int → Option (Int)
  | 0, _, _, _ => none
  | k + 1, x0, x1, x5 => if x5 < (x0.length : Int) then (if 0 ≤ x5 then ((laws_heldIntS.f k (rd_L1 x0 x5) x1).bind fun t179 => (if t179 < 0 then (some (-1)) else (laws_heldIntSS.l0 k x0 t179 (wrap64 (x5 + 1))))) else (none)) else (some x1)
def laws_heldIntSS.f (k : Nat) (l0 : List (List Int)) (a1 : Int) : Option (Int) := laws_heldIntSS.l0 k l0 a1 0
theorem laws_heldIntSS.mono_l : ∀ k, (∀ y0 y1 y2, LeO (laws_heldIntSS.l0 k y0 y1 y2) (laws_heldIntSS.l0 (k + 1) y0 y1 y2))
  | 0 => fun _ _ _ r h => by simp [laws_heldIntSS.l0] at h
  | k + 1 => by
    have ih0 := laws_heldIntSS.mono_l k
    · intro y0 y1 y2
      unfold laws_heldIntSS.l0
      repeat' first
      | (with_reducible exact ih0 _ _ _)
      | (with_reducible exact laws_heldIntS.mono _ _ _)
      | (with_reducible exact LeO.refl _)
      | (with_reducible exact LeO.none _)
      | (with_reducible refine LeO.ite ?_ ?_)
      | (with_reducible refine LeO.bind ?_ (fun _ => ?_))
      | exact ih0 _ _ _
      | exact laws_heldIntS.mono _ _ _
      | exact LeO.none _
      | refine LeO.ite ?_ ?_
      | refine LeO.bind ?_ (fun _ => ?_)
theorem laws_heldIntSS.mono : ∀ a0 a1 k, LeO (laws_heldIntSS.f k a0 a1) (laws_heldIntSS.f (k + 1) a0 a1) := by
  intro a0 a1 k
  have ih0 := laws_heldIntSS.mono_l k
  unfold laws_heldIntSS.f
  repeat' first
      | (with_reducible exact ih0 _ _ _)
      | (with_reducible exact laws_heldIntS.mono _ _ _)
      | (with_reducible exact LeO.refl _)
      | (with_reducible exact LeO.none _)
      | (with_reducible refine LeO.ite ?_ ?_)
      | (with_reducible refine LeO.bind ?_ (fun _ => ?_))
      | exact ih0 _ _ _
      | exact laws_heldIntS.mono _ _ _
      | exact LeO.none _
      | refine LeO.ite ?_ ?_
      | refine LeO.bind ?_ (fun _ => ?_)
set_option maxHeartbeats 8000000 in
set_option maxRecDepth 100000 in
theorem laws_heldIntSS.calls (k : Nat) (A0 : Option Addr) (c0 : Nat) (l0 : List (List Int)) (a1 : Int) (r : Int) (w : World) (hr0 : Kd.C (Kd.slice 3 (Kd.int .i64)) w A0 l0.length l0) (hc0 : l0.length ≤ c0) (h : laws_heldIntSS.f k l0 a1 = some r) :
    Calls Try.prog 50 #[.slice A0 l0.length c0, .int .i64 a1] w fun e w' => e = .returned (.int .i64 r) ∧ Drawn0 w w' := by
  have HR0 := Aside0.mk hr0
  have HC0 := Aside0.mk hc0
  clear hr0 hc0
  have H : (laws_heldIntSS.l0 k l0 a1 0) = some r := h
  clear h
  have H' := Aside0.mk H
  clear H
  go_enter Try.func50, Try.ntmps50
  go_wp2
  go_loopg [1, 5] k (fun kq v1 v5 w' => ∃ (x1_1 : Int) (x5_1 : Int), v1 = .int .i64 x1_1 ∧ v5 = .int .i64 x5_1 ∧ Aside0 (laws_heldIntSS.l0 kq l0 x1_1 x5_1 = some r) ∧ Aside0 (kq ≤ k) ∧ Drawn0 w w')
  case atStart => exact ⟨(a1), (0), (by first | rfl | (simp; done) | (simp [*]; done)), (by first | rfl | (simp; done) | (simp [*]; done)), H', ⟨Nat.le_refl _⟩, by repeat (first | exact Drawn0.refl _ | apply Drawn0.step)⟩
  case round =>
    clear H'
    try clear p2
    obtain ⟨x1_1, x5_1, rfl, rfl, HA, HK1, ⟨m1, rfl⟩⟩ := hrel
    cases gk with
    | zero => exact absurd HA.out (by simp [laws_heldIntSS.l0])
    | succ k1 =>
      have H := HA.out
      clear HA
      simp only [laws_heldIntSS.l0] at H
      by_cases c3 : x5_1 < (l0.length : Int)
      · rw [if_pos c3] at H
        have c3b0 : decide (x5_1 < (l0.length : Int)) = true := decide_eq_true c3
        clear c3
        by_cases c4 : 0 ≤ x5_1
        · rw [if_pos c4] at H
          have c4b0 : decide (0 ≤ x5_1) = true := decide_eq_true c4
          clear c4
          replace H := Option.bind_eq_some_iff.mp H
          obtain ⟨t179, A50, H⟩ := H
          replace H : (if t179 < 0 then (some (-1)) else (laws_heldIntSS.l0 k1 l0 t179 (wrap64 (x5_1 + 1)))) = some r := H
          have A5 := Aside0.mk A50
          clear A50
          by_cases c6 : t179 < 0
          · rw [if_pos c6] at H
            have c6b0 : decide (t179 < 0) = true := decide_eq_true c6
            clear c6
            obtain rfl := Option.some.inj H
            have p178 : 0 ≤ (x5_1 : Int) := of_decide_eq_true (by first | (with_reducible assumption) | assumption)
            have q178 : x5_1 < (l0.length : Int) := of_decide_eq_true (by first | (with_reducible assumption) | assumption)
            obtain ⟨ad178, A178_0, c178_0, e178, hx178_0, hl178_0, hi178_0⟩ := at_L1 HR0.out x5_1 p178 q178
            cases e178
            have HR178_0 := Aside0.mk hi178_0
            have HC178_0 := Aside0.mk hl178_0
            clear hi178_0 hl178_0
            replace p178 := eq_true p178
            replace q178 := eq_true q178
            go_wp2_with (first | ((with_reducible refine gate_callee (f := 33) rfl ?_); refine goesL_ (some 17) rfl rfl Try.func33 (by kernel_rfl) rfl #[.slice A178_0 (rd_L1 l0 x5_1).length c178_0, .int .i64 x1_1] rfl (by (try simp only [List.map_toArray, List.map_cons, List.map_nil]); first | done | rfl | (simp only [List.length_drop, List.length_take]; rfl)) ?_; (with_reducible refine (laws_heldIntS.calls k1 _ _ (rd_L1 l0 x5_1) x1_1 t179 _ ?side1 ?side2 A5.out).mono ?_); (case side1 => repeat (first | exact HR178_0.out | (with_reducible refine Kd.C_alloc ?_ _) | (with_reducible refine Kd.C_drewN ?_ _) | (with_reducible refine Kd.C_drew ?_))); (case side2 => exact HC178_0.out); rintro e w' ⟨rfl, ⟨nd, rfl⟩⟩; refine ⟨_, rfl, ?_⟩))
            go_ret
            exact ⟨by first | rfl | (simp; done) | (simp [*]; done), by repeat (first | exact Drawn0.refl _ | apply Drawn0.step)⟩
          · rw [if_neg c6] at H
            have c6b0 : decide (t179 < 0) = false := decide_eq_false c6
            clear c6
            have H' := Aside0.mk H
            clear H
            have p178 : 0 ≤ (x5_1 : Int) := of_decide_eq_true (by first | (with_reducible assumption) | assumption)
            have q178 : x5_1 < (l0.length : Int) := of_decide_eq_true (by first | (with_reducible assumption) | assumption)
            obtain ⟨ad178, A178_0, c178_0, e178, hx178_0, hl178_0, hi178_0⟩ := at_L1 HR0.out x5_1 p178 q178
            cases e178
            have HR178_0 := Aside0.mk hi178_0
            have HC178_0 := Aside0.mk hl178_0
            clear hi178_0 hl178_0
            replace p178 := eq_true p178
            replace q178 := eq_true q178
            go_wp2_with (first | ((with_reducible refine gate_callee (f := 33) rfl ?_); refine goesL_ (some 17) rfl rfl Try.func33 (by kernel_rfl) rfl #[.slice A178_0 (rd_L1 l0 x5_1).length c178_0, .int .i64 x1_1] rfl (by (try simp only [List.map_toArray, List.map_cons, List.map_nil]); first | done | rfl | (simp only [List.length_drop, List.length_take]; rfl)) ?_; (with_reducible refine (laws_heldIntS.calls k1 _ _ (rd_L1 l0 x5_1) x1_1 t179 _ ?side1 ?side2 A5.out).mono ?_); (case side1 => repeat (first | exact HR178_0.out | (with_reducible refine Kd.C_alloc ?_ _) | (with_reducible refine Kd.C_drewN ?_ _) | (with_reducible refine Kd.C_drew ?_))); (case side2 => exact HC178_0.out); rintro e w' ⟨rfl, ⟨nd, rfl⟩⟩; refine ⟨_, rfl, ?_⟩))
            go_roundg k1
            case measure => have := HK1.out; omega
            case rel => exact ⟨(t179), (wrap64 (x5_1 + 1)), (by first | rfl | (simp; done) | (simp [*]; done)), (by first | rfl | (simp; done) | (simp [*]; done)), H', ⟨by have := HK1.out; omega⟩, by repeat (first | exact Drawn0.refl _ | apply Drawn0.step)⟩
        · rw [if_neg c4] at H
          exact absurd H (by simp)
      · rw [if_neg c3] at H
        have c3b0 : decide (x5_1 < (l0.length : Int)) = false := decide_eq_false c3
        clear c3
        obtain rfl := Option.some.inj H
        go_wp2
        go_ret
        exact ⟨by first | rfl | (simp; done) | (simp [*]; done), by repeat (first | exact Drawn0.refl _ | apply Drawn0.step)⟩

/-! ### laws_FnExactTurnedPieces: function 14 -/
/-- What is to be shown of TurnedPieces: the two texts give the same rows and the same word, and marks can be told. -/
def laws_FnExactTurnedPieces.At (k : Nat) (l0 : List (List Int)) (a1 : Int) : Prop := ∃ s, laws_szIntSS.f k l0 1048576 = some s ∧ (s < 0 ∨ ∃ (r : List (List Int)) (b : Bool) (m0 m : Int) (rm : List (List Int)), laws_toIntSS.f k l0 = some l0 ∧ spec_TurnedPieces.f k l0 a1 = some (r, b) ∧ impl_TurnedPieces.f k l0 a1 = some (r, b) ∧ laws_eqIntSS.f k r r = some true ∧ laws_eqIntSS.f k l0 l0 = some true ∧ laws_markIntSS.f k l0 1 = some m0 ∧ 0 ≤ m0 ∧ mkT k r 1 0 = some (m, rm) ∧ laws_heldIntSS.f k rm 1 = some m ∧ 0 ≤ m ∧ 0 ≤ s)
/-- THE ONE PLAIN STATEMENT of laws_FnExactTurnedPieces. -/
def laws_FnExactTurnedPieces.Pure : Prop := ∀ (l0 : List (List Int)) (a1 : Int), l0.length ≤ maxLen → l0.length * 24 ≤ 140737488351232 → (∀ x ∈ l0, x.length ≤ maxLen ∧ ∀ y ∈ x, (Lit.int .i64 y).wf = true) → (Lit.int .i64 a1).wf = true → ∃ k, laws_FnExactTurnedPieces.At k l0 a1
set_option maxHeartbeats 8000000 in
set_option maxRecDepth 100000 in
theorem laws_FnExactTurnedPieces.walk (P : laws_FnExactTurnedPieces.Pure) (A0 : Option Addr) (c0 : Nat) (l0 : List (List Int)) (a1 : Int) (w : World) (hr0 : Kd.C (Kd.slice 3 (Kd.int .i64)) w A0 l0.length l0) (hc0 : l0.length ≤ c0) (hm0 : l0.length ≤ maxLen) (y0 : l0.length * 24 ≤ 140737488351232) (hw0 : ∀ x ∈ l0, x.length ≤ maxLen ∧ ∀ y ∈ x, (Lit.int .i64 y).wf = true) (w1 : (Lit.int .i64 a1).wf = true) :
    Calls Try.prog 14 #[.slice A0 l0.length c0, .int .i64 a1] w fun e w' => e = .returned (.bool true) ∧ Below w.heap.size w w' := by
  obtain ⟨k, s, hs, hP⟩ := P l0 a1 hm0 y0 hw0 w1
  have HR := Aside0.mk hr0
  have HC := Aside0.mk hc0
  have HS := Aside0.mk hs
  have HP := Aside0.mk hP
  have HB0 := Aside0.mk (Below.refl w.heap.size w)
  clear hr0 hc0 hs hP P hm0 y0 hw0 w1
  go_enter Try.func14, Try.ntmps14
  go_wp2_with fail
  refine (laws_szIntSS.calls k A0 c0 l0 1048576 s w HR.out HC.out HS.out).mono ?_
  rintro e w0 ⟨rfl, hd⟩
  have HB := Aside0.mk (show Below w.heap.size w w0 from Drawn0.below hd)
  clear hd
  by_cases hneg : s < 0
  · have cb0 : decide (s < 0) = true := decide_eq_true hneg
    clear hneg
    go_wp2
    go_ret
    exact ⟨rfl, HB.out⟩
  have cb0 : decide (s < 0) = false := decide_eq_false hneg
  obtain ⟨r, b, m0, m, rm, h1, h2, h3, h4, h5, h6, h7, h8, h9, h10, _⟩ := (HP.out.resolve_left hneg)
  have HT := Aside0.mk h1
  have HSP := Aside0.mk h2
  have HIM := Aside0.mk h3
  have HEQ := Aside0.mk h4
  have HEL := Aside0.mk h5
  have HM0 := Aside0.mk h6
  have HMT := Aside0.mk h8
  have HHE := Aside0.mk h9
  have c7b0 : decide (m0 < 0) = false := decide_eq_false (by omega)
  have c10b0 : decide (m < 0) = false := decide_eq_false (by omega)
  clear h1 h2 h3 h4 h5 h6 h7 h8 h9 h10 hneg HP
  go_wp2_with fail
  refine (laws_toIntSS.calls k A0 c0 l0 l0 w0 (Kd.C_below HR.out HB.out) HC.out HT.out).mono ?_
  rintro e w1 ⟨vT1, rfl, hs_, hb_⟩
  have hb2_ := hb_
  have hsz_T1 := HB.out.size
  have LE_w0 := Aside0.mk hsz_T1
  have T1 := Aside0.mk (Kd.S_mono (Kd.S_bound hs_) (ok' := fun k_ => w0.heap.size ≤ k_ ∧ k_ < w1.heap.size) (fun k_ hk => ⟨hk.2.1, hk.2.2.1⟩))
  have n_b := Aside0.mk (below_step HB.out hb_)
  have ZT1 := Aside0.mk (show w0.heap.size ≤ w1.heap.size from hb_.size)
  clear HB; have HB := n_b; clear n_b hs_ hb_ hb2_ hsz_T1
  obtain ⟨A_T1, c_T1, e_T1⟩ := Kd.R_slice (Kd.S_R T1.out)
  subst e_T1
  go_wp2_with fail
  refine (spec_TurnedPieces.calls k A_T1 c_T1 l0 a1 r b w1 (Kd.S_reads' T1.out).2.2 (Kd.S_reads' T1.out).2.1 HSP.out).mono ?_
  rintro e w2 ⟨vW0, rfl, hs_, hb_⟩
  have hb2_ := hb_
  have n_T1 := Aside0.mk (Kd.S_below T1.out hb2_)
  clear T1; have T1 := n_T1; clear n_T1
  have hsz_W0 := HB.out.size
  have LE_w1 := Aside0.mk hsz_W0
  have W0 := Aside0.mk (Kd.S_mono (Kd.S_bound hs_) (ok' := fun k_ => w1.heap.size ≤ k_ ∧ k_ < w2.heap.size) (fun k_ hk => ⟨hk.2.1, hk.2.2.1⟩))
  have n_b := Aside0.mk (below_step HB.out hb_)
  have ZW0 := Aside0.mk (show w1.heap.size ≤ w2.heap.size from hb_.size)
  clear HB; have HB := n_b; clear n_b hs_ hb_ hb2_ hsz_W0
  obtain ⟨A_W0, c_W0, e_W0⟩ := Kd.R_slice (Kd.S_R W0.out)
  subst e_W0
  go_wp2_with fail
  refine (laws_toIntSS.calls k A0 c0 l0 l0 w2 (Kd.C_below HR.out HB.out) HC.out HT.out).mono ?_
  rintro e w3 ⟨vX0, rfl, hs_, hb_⟩
  have hb2_ := hb_
  have n_T1 := Aside0.mk (Kd.S_below T1.out hb2_)
  have n_W0 := Aside0.mk (Kd.S_below W0.out hb2_)
  clear T1; have T1 := n_T1; clear n_T1
  clear W0; have W0 := n_W0; clear n_W0
  have hsz_X0 := HB.out.size
  have LE_w2 := Aside0.mk hsz_X0
  have X0 := Aside0.mk (Kd.S_mono (Kd.S_bound hs_) (ok' := fun k_ => w2.heap.size ≤ k_ ∧ k_ < w3.heap.size) (fun k_ hk => ⟨hk.2.1, hk.2.2.1⟩))
  have n_b := Aside0.mk (below_step HB.out hb_)
  have ZX0 := Aside0.mk (show w2.heap.size ≤ w3.heap.size from hb_.size)
  clear HB; have HB := n_b; clear n_b hs_ hb_ hb2_ hsz_X0
  obtain ⟨A_X0, c_X0, e_X0⟩ := Kd.R_slice (Kd.S_R X0.out)
  subst e_X0
  go_wp2_with fail
  refine (impl_TurnedPieces.calls k A_X0 c_X0 l0 a1 r b w3 (Kd.S_reads' X0.out).2.2 (Kd.S_reads' X0.out).2.1 HIM.out).mono ?_
  rintro e w4 ⟨vG0, rfl, hs_, hb_⟩
  have hb2_ := hb_
  have n_T1 := Aside0.mk (Kd.S_below T1.out hb2_)
  have n_W0 := Aside0.mk (Kd.S_below W0.out hb2_)
  have n_X0 := Aside0.mk (Kd.S_below X0.out hb2_)
  clear T1; have T1 := n_T1; clear n_T1
  clear W0; have W0 := n_W0; clear n_W0
  clear X0; have X0 := n_X0; clear n_X0
  have hsz_G0 := HB.out.size
  have LE_w3 := Aside0.mk hsz_G0
  have G0 := Aside0.mk (Kd.S_mono (Kd.S_bound hs_) (ok' := fun k_ => w3.heap.size ≤ k_ ∧ k_ < w4.heap.size) (fun k_ hk => ⟨hk.2.1, hk.2.2.1⟩))
  have n_b := Aside0.mk (below_step HB.out hb_)
  have ZG0 := Aside0.mk (show w3.heap.size ≤ w4.heap.size from hb_.size)
  clear HB; have HB := n_b; clear n_b hs_ hb_ hb2_ hsz_G0
  obtain ⟨A_G0, c_G0, e_G0⟩ := Kd.R_slice (Kd.S_R G0.out)
  subst e_G0
  go_wp2_with fail
  refine (laws_eqIntSS.calls k A_G0 c_G0 r A_W0 c_W0 r true w4 (Kd.S_reads' G0.out).2.2 (Kd.S_reads' G0.out).2.1 (Kd.S_reads' W0.out).2.2 (Kd.S_reads' W0.out).2.1 HEQ.out).mono ?_
  rintro e w5 ⟨rfl, hd_⟩
  have hb2_ := Drawn0.below hd_
  have n_T1 := Aside0.mk (Kd.S_below T1.out hb2_)
  have n_W0 := Aside0.mk (Kd.S_below W0.out hb2_)
  have n_X0 := Aside0.mk (Kd.S_below X0.out hb2_)
  have n_G0 := Aside0.mk (Kd.S_below G0.out hb2_)
  clear T1; have T1 := n_T1; clear n_T1
  clear W0; have W0 := n_W0; clear n_W0
  clear X0; have X0 := n_X0; clear n_X0
  clear G0; have G0 := n_G0; clear n_G0
  have n_b := Aside0.mk (below_step HB.out hb2_)
  clear HB; have HB := n_b; clear n_b hd_ hb2_
  go_wp2_with fail
  refine (laws_toIntSS.calls k A0 c0 l0 l0 w5 (Kd.C_below HR.out HB.out) HC.out HT.out).mono ?_
  rintro e w6 ⟨vT3, rfl, hs_, hb_⟩
  have hb2_ := hb_
  have n_T1 := Aside0.mk (Kd.S_below T1.out hb2_)
  have n_W0 := Aside0.mk (Kd.S_below W0.out hb2_)
  have n_X0 := Aside0.mk (Kd.S_below X0.out hb2_)
  have n_G0 := Aside0.mk (Kd.S_below G0.out hb2_)
  clear T1; have T1 := n_T1; clear n_T1
  clear W0; have W0 := n_W0; clear n_W0
  clear X0; have X0 := n_X0; clear n_X0
  clear G0; have G0 := n_G0; clear n_G0
  have hsz_T3 := HB.out.size
  have LE_w5 := Aside0.mk hsz_T3
  have T3 := Aside0.mk (Kd.S_mono (Kd.S_bound hs_) (ok' := fun k_ => w5.heap.size ≤ k_ ∧ k_ < w6.heap.size) (fun k_ hk => ⟨hk.2.1, hk.2.2.1⟩))
  have n_b := Aside0.mk (below_step HB.out hb_)
  have ZT3 := Aside0.mk (show w5.heap.size ≤ w6.heap.size from hb_.size)
  clear HB; have HB := n_b; clear n_b hs_ hb_ hb2_ hsz_T3
  obtain ⟨A_T3, c_T3, e_T3⟩ := Kd.R_slice (Kd.S_R T3.out)
  subst e_T3
  go_wp2_with fail
  refine (laws_eqIntSS.calls k A_X0 c_X0 l0 A_T3 c_T3 l0 true w6 (Kd.S_reads' X0.out).2.2 (Kd.S_reads' X0.out).2.1 (Kd.S_reads' T3.out).2.2 (Kd.S_reads' T3.out).2.1 HEL.out).mono ?_
  rintro e w7 ⟨rfl, hd_⟩
  have hb2_ := Drawn0.below hd_
  have n_T1 := Aside0.mk (Kd.S_below T1.out hb2_)
  have n_W0 := Aside0.mk (Kd.S_below W0.out hb2_)
  have n_X0 := Aside0.mk (Kd.S_below X0.out hb2_)
  have n_G0 := Aside0.mk (Kd.S_below G0.out hb2_)
  have n_T3 := Aside0.mk (Kd.S_below T3.out hb2_)
  clear T1; have T1 := n_T1; clear n_T1
  clear W0; have W0 := n_W0; clear n_W0
  clear X0; have X0 := n_X0; clear n_X0
  clear G0; have G0 := n_G0; clear n_G0
  clear T3; have T3 := n_T3; clear n_T3
  have n_b := Aside0.mk (below_step HB.out hb2_)
  clear HB; have HB := n_b; clear n_b hd_ hb2_
  go_wp2_with fail
  refine (laws_markIntSS.calls k _ _ l0 1 m0 w w7 HB.out (Kd.S_R (Kd.S_lower X0.out (by have := LE_w2.out; omega))) HM0.out).mono ?_
  rintro e w8 ⟨rfl, hb_, hk_⟩
  have n_W0 := Aside0.mk (Kd.S_kept W0.out hk_ (fun k_ h1_ h2_ => by obtain ⟨a_, b_⟩ := h1_; obtain ⟨c_, d_⟩ := h2_; have z1 := ZX0.out; omega))
  have n_G0 := Aside0.mk (Kd.S_kept G0.out hk_ (fun k_ h1_ h2_ => by obtain ⟨a_, b_⟩ := h1_; obtain ⟨c_, d_⟩ := h2_; have z1 := ZX0.out; omega))
  have HB2 := Aside0.mk hb_
  clear W0; have W0 := n_W0; clear n_W0
  clear G0; have G0 := n_G0; clear n_G0
  clear HB; have HB := HB2; clear HB2 hb_ hk_ X0 T1 T3
  go_wp2_with fail
  refine (laws_eqIntSS.calls k A_G0 c_G0 r A_W0 c_W0 r true w8 (Kd.S_reads' G0.out).2.2 (Kd.S_reads' G0.out).2.1 (Kd.S_reads' W0.out).2.2 (Kd.S_reads' W0.out).2.1 HEQ.out).mono ?_
  rintro e w9 ⟨rfl, hd_⟩
  have hb2_ := Drawn0.below hd_
  have n_W0 := Aside0.mk (Kd.S_below W0.out hb2_)
  have n_G0 := Aside0.mk (Kd.S_below G0.out hb2_)
  clear W0; have W0 := n_W0; clear n_W0
  clear G0; have G0 := n_G0; clear n_G0
  have n_b := Aside0.mk (below_step HB.out hb2_)
  clear HB; have HB := n_b; clear n_b hd_ hb2_
  go_wp2_with fail
  refine (marksSS.calls k _ _ r 1 m rm w w9 HB.out (Kd.S_lower G0.out (by have := LE_w3.out; omega)) HMT.out).mono ?_
  rintro e w10 ⟨rfl, hs_, hb_, hk_⟩
  have n_W0 := Aside0.mk (Kd.S_kept W0.out hk_ (fun k_ h1_ h2_ => by obtain ⟨a_, b_⟩ := h1_; obtain ⟨c_, d_⟩ := h2_; have z1 := ZX0.out; omega))
  have HB2 := Aside0.mk hb_
  have n_G0 := Aside0.mk hs_
  have HLN := Aside0.mk (Kd.S_reads' hs_).1
  clear W0; have W0 := n_W0; clear n_W0
  clear G0; have G0 := n_G0; clear n_G0
  clear HB; have HB := HB2; clear HB2 hb_ hk_ hs_
  have G0C := Aside0.mk (show Kd.C (Kd.slice 3 (Kd.int .i64)) w10 A_G0 rm.length rm ∧ rm.length ≤ c_G0 from ⟨(Kd.S_reads' G0.out).2.2, by have := (Kd.S_reads' G0.out).2.1; have := HLN.out; omega⟩)
  clear G0
  go_wp2_with fail
  have hcall_ := laws_heldIntSS.calls k A_G0 c_G0 rm 1 m w10 G0C.out.1 G0C.out.2 HHE.out
  rw [← HLN.out] at hcall_
  refine hcall_.mono ?_
  clear hcall_
  rintro e w11 ⟨rfl, hd_⟩
  have hb2_ := Drawn0.below hd_
  have n_W0 := Aside0.mk (Kd.S_below W0.out hb2_)
  clear W0; have W0 := n_W0; clear n_W0
  have n_G := Aside0.mk (show _ ∧ rm.length ≤ c_G0 from ⟨Kd.C_below G0C.out.1 hb2_, G0C.out.2⟩)
  have n_b := Aside0.mk (below_step HB.out hb2_)
  clear HB G0C; have HB := n_b; have G0C := n_G; clear n_b n_G hd_ hb2_
  go_wp2_with fail
  refine (laws_toIntSS.calls k A0 c0 l0 l0 w11 (Kd.C_below HR.out HB.out) HC.out HT.out).mono ?_
  rintro e w12 ⟨vT4, rfl, hs_, hb_⟩
  have hb2_ := hb_
  have n_G := Aside0.mk (show _ ∧ rm.length ≤ c_G0 from ⟨Kd.C_below G0C.out.1 hb2_, G0C.out.2⟩)
  clear G0C; have G0C := n_G; clear n_G
  have n_W0 := Aside0.mk (Kd.S_below W0.out hb2_)
  clear W0; have W0 := n_W0; clear n_W0
  have hsz_T4 := HB.out.size
  have LE_w11 := Aside0.mk hsz_T4
  have T4 := Aside0.mk (Kd.S_mono (Kd.S_bound hs_) (ok' := fun k_ => w11.heap.size ≤ k_ ∧ k_ < w12.heap.size) (fun k_ hk => ⟨hk.2.1, hk.2.2.1⟩))
  have n_b := Aside0.mk (below_step HB.out hb_)
  have ZT4 := Aside0.mk (show w11.heap.size ≤ w12.heap.size from hb_.size)
  clear HB; have HB := n_b; clear n_b hs_ hb_ hb2_ hsz_T4
  obtain ⟨A_T4, c_T4, e_T4⟩ := Kd.R_slice (Kd.S_R T4.out)
  subst e_T4
  go_wp2_with fail
  refine (impl_TurnedPieces.calls k A_T4 c_T4 l0 a1 r b w12 (Kd.S_reads' T4.out).2.2 (Kd.S_reads' T4.out).2.1 HIM.out).mono ?_
  rintro e w13 ⟨vH0, rfl, hs_, hb_⟩
  have hb2_ := hb_
  have n_G := Aside0.mk (show _ ∧ rm.length ≤ c_G0 from ⟨Kd.C_below G0C.out.1 hb2_, G0C.out.2⟩)
  clear G0C; have G0C := n_G; clear n_G
  have n_W0 := Aside0.mk (Kd.S_below W0.out hb2_)
  have n_T4 := Aside0.mk (Kd.S_below T4.out hb2_)
  clear W0; have W0 := n_W0; clear n_W0
  clear T4; have T4 := n_T4; clear n_T4
  have hsz_H0 := HB.out.size
  have LE_w12 := Aside0.mk hsz_H0
  have H0 := Aside0.mk (Kd.S_mono (Kd.S_bound hs_) (ok' := fun k_ => w12.heap.size ≤ k_ ∧ k_ < w13.heap.size) (fun k_ hk => ⟨hk.2.1, hk.2.2.1⟩))
  have n_b := Aside0.mk (below_step HB.out hb_)
  have ZH0 := Aside0.mk (show w12.heap.size ≤ w13.heap.size from hb_.size)
  clear HB; have HB := n_b; clear n_b hs_ hb_ hb2_ hsz_H0
  obtain ⟨A_H0, c_H0, e_H0⟩ := Kd.R_slice (Kd.S_R H0.out)
  subst e_H0
  go_wp2_with fail
  refine (laws_eqIntSS.calls k A_H0 c_H0 r A_W0 c_W0 r true w13 (Kd.S_reads' H0.out).2.2 (Kd.S_reads' H0.out).2.1 (Kd.S_reads' W0.out).2.2 (Kd.S_reads' W0.out).2.1 HEQ.out).mono ?_
  rintro e w14 ⟨rfl, hd_⟩
  have hb2_ := Drawn0.below hd_
  have n_G := Aside0.mk (show _ ∧ rm.length ≤ c_G0 from ⟨Kd.C_below G0C.out.1 hb2_, G0C.out.2⟩)
  clear G0C; have G0C := n_G; clear n_G
  have n_W0 := Aside0.mk (Kd.S_below W0.out hb2_)
  have n_T4 := Aside0.mk (Kd.S_below T4.out hb2_)
  have n_H0 := Aside0.mk (Kd.S_below H0.out hb2_)
  clear W0; have W0 := n_W0; clear n_W0
  clear T4; have T4 := n_T4; clear n_T4
  clear H0; have H0 := n_H0; clear n_H0
  have n_b := Aside0.mk (below_step HB.out hb2_)
  clear HB; have HB := n_b; clear n_b hd_ hb2_
  go_wp2_with fail
  have hcall_ := laws_heldIntSS.calls k A_G0 c_G0 rm 1 m w14 G0C.out.1 G0C.out.2 HHE.out
  rw [← HLN.out] at hcall_
  refine hcall_.mono ?_
  clear hcall_
  rintro e w15 ⟨rfl, hd_⟩
  have hb2_ := Drawn0.below hd_
  have n_W0 := Aside0.mk (Kd.S_below W0.out hb2_)
  have n_T4 := Aside0.mk (Kd.S_below T4.out hb2_)
  have n_H0 := Aside0.mk (Kd.S_below H0.out hb2_)
  clear W0; have W0 := n_W0; clear n_W0
  clear T4; have T4 := n_T4; clear n_T4
  clear H0; have H0 := n_H0; clear n_H0
  have n_G := Aside0.mk (show _ ∧ rm.length ≤ c_G0 from ⟨Kd.C_below G0C.out.1 hb2_, G0C.out.2⟩)
  have n_b := Aside0.mk (below_step HB.out hb2_)
  clear HB G0C; have HB := n_b; have G0C := n_G; clear n_b n_G hd_ hb2_
  go_wp2
  go_ret
  exact ⟨rfl, HB.out⟩

end Go.Proofs.Ytcmmammefghjdaa.XFnExactTurnedPieces
