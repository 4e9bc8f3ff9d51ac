/- What functions of the program compute, as plain Lean functions, and that Go's calls come to just that: written by wip/tools/xprint.py for the law FnExactPotentialsOf. -/
import Derived.Test.YtmokeeakgacadaaXFnExactPotentialsOfx0
namespace Go.Proofs.Ytmokeeakgacadaa.XFnExactPotentialsOf
open Go.RowKit Go.Proofs.YtmokeeakgacadaaW.PrintWords Go.Proofs.YtmokeeakgacadaaW.PrintLast Go.Proofs.YtmokeeakgacadaaW.PrintMore
attribute [local go_sem] max2_int min2_int max_two min_two max_three min_three max_four min_four   -- for this text's walks alone
set_option linter.unusedVariables false
set_option linter.unusedSimpArgs false

/-! ### laws_markIntSS: function 22 -/
/-- Marks of a row: how many, from a on. -/
def mk.l0 : Nat → Nat → Int → Int → Option Int
  | 0, _, _, _ => none
  | k + 1, n, a, i => if i < (n : Int) then (if 0 ≤ i then (mk.l0 k n (wrap64 (a + 1)) (wrap64 (i + 1))) else none) else (some a)
theorem mk.mono_l : ∀ k, (∀ y0 y1 y2, LeO (mk.l0 k y0 y1 y2) (mk.l0 (k + 1) y0 y1 y2))
  | 0 => fun _ _ _ r h => by simp [mk.l0] at h
  | k + 1 => by
    have ih0 := mk.mono_l k
    intro y0 y1 y2
    unfold mk.l0
    repeat' first
      | (with_reducible exact ih0 _ _ _)
      | (with_reducible exact LeO.refl _)
      | (with_reducible exact LeO.none _)
      | (with_reducible refine LeO.ite ?_ ?_)
      | exact ih0 _ _ _
def laws_markIntSS.l0 : Nat → List (List Int) → Int → Int → Option Int
  | 0, _, _, _ => none
  | k + 1, l, a, i => if i < (l.length : Int) then (if 0 ≤ i then ((mk.l0 k (rd_L1 l i).length a 0).bind fun t => (laws_markIntSS.l0 k l t (wrap64 (i + 1)))) else none) else (some a)
theorem laws_markIntSS.mono_l : ∀ k, (∀ y0 y1 y2, LeO (laws_markIntSS.l0 k y0 y1 y2) (laws_markIntSS.l0 (k + 1) y0 y1 y2))
  | 0 => fun _ _ _ r h => by simp [laws_markIntSS.l0] at h
  | k + 1 => by
    have ih0 := laws_markIntSS.mono_l k
    intro y0 y1 y2
    unfold laws_markIntSS.l0
    repeat' first
      | (with_reducible exact ih0 _ _ _)
      | (with_reducible exact mk.mono_l _ _ _ _)
      | (with_reducible exact LeO.refl _)
      | (with_reducible exact LeO.none _)
      | (with_reducible refine LeO.ite ?_ ?_)
      | (with_reducible refine LeO.bind ?_ (fun _ => ?_))
def laws_markIntSS.f (k : Nat) (l0 : List (List Int)) (a1 : Int) : Option Int := laws_markIntSS.l0 k l0 a1 0
theorem laws_markIntSS.mono : ∀ a0 a1 k, LeO (laws_markIntSS.f k a0 a1) (laws_markIntSS.f (k + 1) a0 a1) := fun a0 a1 k => laws_markIntSS.mono_l k _ _ _
theorem R_int_set {W : World} {base : Nat} {P : Nat → Prop} {v : Value} {xs : List Int} (h : Kd.R (Kd.int .i64) 3 W base P v xs) (b i : Nat) (x : Int) : ∃ xs', xs'.length = xs.length ∧ Kd.R (Kd.int .i64) 3 (W.setCell ⟨b, i, none⟩ (.int .i64 x)) base P v xs' := by
  by_cases hb : v.ownBlock = some b
  · obtain ⟨inner, ho⟩ := Kd.R_own h
    rcases ho.2 with ⟨e, _⟩ | ⟨g, cap, cur, e, _⟩
    · rw [e] at hb; simp [Value.ownBlock] at hb
    · subst e
      have e2 : g = b := by simpa [Value.ownBlock] using hb
      subst e2
      have := (Kd.R_putg h (i : Int) x).1
      rw [Int.toNat_natCast] at this
      exact ⟨xs.set i x, by simp, this⟩
  · have h' : Kd.R (Kd.int .i64) 3 W base (fun k => v.ownBlock = some k) v xs := ⟨fun k hk => hk, h.2⟩
    exact ⟨xs, rfl, Kd.R_mono (Kd.R_far h' (p := ⟨b, i, none⟩) (fun k hk e => hb (by rw [hk]; exact congrArg some e)) _) (fun k hk => h.1 k hk)⟩
/-- The rows that are marked: their lengths stay. -/
structure MkInv (base : Nat) (P : Nat → Prop) (g : Nat) (cur : Array Value) (l0 : List (List Int)) (W : World) : Prop where
  hg : W.heap[g]? = some (.cells cur 22 (0, 0))
  hr : ∀ (j : Nat) (hj : j < l0.length), ∃ A c xs, cur[j]? = some (.slice A (l0[j]).length c) ∧ xs.length = (l0[j]).length ∧ Kd.R (Kd.int .i64) 3 W base P (.slice A (l0[j]).length c) xs
theorem MkInv.start {w : World} {base : Nat} {P : Nat → Prop} {u : Value} {l0 : List (List Int)} (h : Kd.R (Kd.slice 3 (Kd.int .i64)) 22 w base P u l0) (hl : 0 < l0.length) : ∃ g cap cur, u = .slice (some ⟨g, 0, none⟩) l0.length cap ∧ MkInv base P g cur l0 w := by
  obtain ⟨h0, inner, ho, hr⟩ := h
  rcases ho.2 with ⟨_, hn⟩ | ⟨g, cap, cur, rfl, hb, hh, hc1, hc2, hc3, hc4⟩
  · omega
  · refine ⟨g, cap, cur, rfl, hh, fun j hj => ?_⟩
    obtain ⟨v, hv, hR⟩ := hr.2 j l0[j] (by simp [hj])
    obtain ⟨A, c, rfl⟩ := Kd.R_slice hR
    refine ⟨A, c, l0[j], ?_, rfl, Kd.R_mono hR (fun k hk => hk.1)⟩
    have hv' : ((cur.toList.take (l0.length * 1)).drop (j * 1)).take 1 = [.slice A (l0[j]).length c] := by
      have : cur.toList.take (l0.length * 1) = inner := hc4
      rw [this]
      exact hv
    have := congrArg (fun l : List Value => l[0]?) hv'
    simpa [List.getElem?_take, List.getElem?_drop, hj] using this
theorem MkInv.set {W : World} {base g : Nat} {P : Nat → Prop} {cur : Array Value} {l0 : List (List Int)} (h : MkInv base P g cur l0 W) (b i : Nat) (x : Int) (hb : ∃ c, W.heap[b]? = some (.cells c 3 (0, 0))) : MkInv base P g cur l0 (W.setCell ⟨b, i, none⟩ (.int .i64 x)) := by
  refine ⟨(Below.heap_setCell W ⟨b, i, none⟩ _ g (fun e => ?_)).trans h.hg, fun j hj => ?_⟩
  · obtain ⟨c, hc⟩ := hb
    have e2 : g = b := e
    rw [← e2, h.hg] at hc
    injection hc with hc
    injection hc with _ hc
    exact absurd hc (by decide)
  · obtain ⟨A, c, xs, h1, h2, h3⟩ := h.hr j hj
    obtain ⟨xs', h4, h5⟩ := R_int_set h3 b i x
    exact ⟨A, c, xs', h1, h4.trans h2, h5⟩
set_option maxHeartbeats 2000000 in
set_option maxRecDepth 100000 in
theorem mk.calls (Inv : World → Prop) (P0_ : Nat → Prop) (base : Nat) (hset : ∀ (W : World) (b i : Nat) (x : Int), Inv W → P0_ b → base ≤ b → (∃ c, W.heap[b]? = some (.cells c 3 (0, 0))) → Inv (W.setCell ⟨b, i, none⟩ (.int .i64 x))) (k : Nat) (v : Value) (xs : List Int) (a1 r : Int) (w : World) (hi : Inv w) (ho : Kd.R (Kd.int .i64) 3 w base P0_ v xs) (h : mk.l0 k xs.length a1 0 = some r) :
    Calls Try.prog 28 #[v, .int .i64 a1] w fun e w' => e = .returned (.int .i64 r) ∧ Inv w' := by
  obtain ⟨A, c, rfl⟩ := Kd.R_slice ho
  have HS := Aside0.mk hset
  have HI := Aside0.mk hi
  have HO := Aside0.mk ho
  have H' := Aside0.mk h
  clear hset hi ho h
  go_enter Try.func28, Try.ntmps28
  go_wp2
  go_loopg [1, 5] k (fun kq v1 v5 w' => ∃ (x0_1 : List Int) (x1_1 : Int) (x5_1 : Int), v1 = .int .i64 x1_1 ∧ v5 = .int .i64 x5_1 ∧ Aside0 (x0_1.length = xs.length) ∧ Aside0 (mk.l0 kq xs.length x1_1 x5_1 = some r) ∧ Aside0 (kq ≤ k) ∧ Aside0 (Kd.R (Kd.int .i64) 3 w' base P0_ (.slice A xs.length c) x0_1) ∧ Aside0 (Inv w'))
  case atStart => exact ⟨xs, a1, 0, rfl, rfl, ⟨rfl⟩, H', ⟨Nat.le_refl _⟩, HO, HI⟩
  case round =>
    clear H' HO HI
    obtain ⟨x0_1, x1_1, x5_1, rfl, rfl, HL, HA, HK1, HO, HI⟩ := hrel
    cases gk with
    | zero => exact absurd HA.out (by simp [mk.l0])
    | succ k1 =>
      have H := HA.out
      clear HA
      simp only [mk.l0] at H
      by_cases c3 : x5_1 < (xs.length : Int)
      · rw [if_pos c3] at H
        have c3b0 : decide (x5_1 < (xs.length : Int)) = true := decide_eq_true c3
        by_cases c4 : 0 ≤ x5_1
        · rw [if_pos c4] at H
          have c4b0 : decide (0 ≤ x5_1) = true := decide_eq_true c4
          have H' := Aside0.mk H
          clear H
          obtain ⟨go5, co5, eo5, gb5, gl5, cl5, HG5⟩ := Kd.R_form HO.out (by have := HL.out; omega)
          have HM := Aside0.mk (HO.out.1 go5 (by rw [eo5]; rfl))
          have GB5 := Aside0.mk gb5
          have HG := Aside0.mk (show ∃ c, wr.heap[go5]? = some (.cells c 3 (0, 0)) from ⟨cl5, HG5⟩)
          (first | cases eo5 | (injection eo5 with ea_ en_ ec_; subst ea_; subst ec_; clear en_))
          clear gb5 gl5 HG5
          obtain ⟨hx5_0, hf5_0⟩ := Kd.R_celln 0 HO.out (x5_1 : Int) c4 c3
          replace c3 := eq_true c3
          replace c4 := eq_true c4
          have HPS := Aside0.mk (Kd.R_putg HO.out (x5_1 : Int) x1_1).1
          have HIS := Aside0.mk (HS.out _ go5 (x5_1 : Int).toNat x1_1 HI.out HM.out GB5.out HG.out)
          go_wp2_with fail
          go_roundg k1
          case measure => have := HK1.out; omega
          case rel => exact ⟨x0_1.set (x5_1 : Int).toNat x1_1, wrap64 (x1_1 + 1), wrap64 (x5_1 + 1), by first | rfl | (simp; done), by first | rfl | (simp; done), ⟨by rw [List.length_set]; exact HL.out⟩, H', ⟨by have := HK1.out; omega⟩, HPS, HIS⟩
        · rw [if_neg c4] at H
          exact absurd H (by simp)
      · rw [if_neg c3] at H
        have c3b0 : decide (x5_1 < (xs.length : Int)) = false := decide_eq_false c3
        clear c3
        obtain rfl := Option.some.inj H
        go_wp2
        go_ret
        exact ⟨rfl, HI.out⟩
set_option maxHeartbeats 2000000 in
set_option maxRecDepth 100000 in
theorem laws_markIntSS.calls (k : Nat) (P0_ : Nat → Prop) (u : Value) (l0 : List (List Int)) (a1 r : Int) (w0 w : World) (hB : Below w0.heap.size w0 w) (ho : Kd.R (Kd.slice 3 (Kd.int .i64)) 22 w w0.heap.size P0_ u l0) (h : laws_markIntSS.f k l0 a1 = some r) :
    Calls Try.prog 22 #[u, .int .i64 a1] w fun e w' => e = .returned (.int .i64 r) ∧ Below w0.heap.size w0 w' ∧ Kept w w' P0_ := by
  have H' := Aside0.mk (show laws_markIntSS.l0 k l0 a1 0 = some r from h)
  have HB := Aside0.mk hB
  by_cases hl : 0 < l0.length
  · obtain ⟨g, cap, cur, rfl, hi⟩ := MkInv.start ho hl
    have HI := Aside0.mk (show MkInv w0.heap.size P0_ g cur l0 w ∧ Below w0.heap.size w0 w ∧ Kept w w P0_ from ⟨hi, hB, Kept.refl w P0_⟩)
    clear h ho hB hi
    go_enter Try.func22, Try.ntmps22
    go_wp2
    go_loopg [1, 5] k (fun kq v1 v5 w' => ∃ (x1_1 : Int) (x5_1 : Int), v1 = .int .i64 x1_1 ∧ v5 = .int .i64 x5_1 ∧ Aside0 (laws_markIntSS.l0 kq l0 x1_1 x5_1 = some r) ∧ Aside0 (kq ≤ k) ∧ Aside0 (MkInv w0.heap.size P0_ g cur l0 w' ∧ Below w0.heap.size w0 w' ∧ Kept w w' P0_))
    case atStart => exact ⟨a1, 0, rfl, rfl, H', ⟨Nat.le_refl _⟩, HI⟩
    case round =>
      clear H' HI
      obtain ⟨x1_1, x5_1, rfl, rfl, HA, HK1, HI⟩ := hrel
      cases gk with
      | zero => exact absurd HA.out (by simp [laws_markIntSS.l0])
      | succ k1 =>
        have H := HA.out
        clear HA
        simp only [laws_markIntSS.l0] at H
        by_cases c3 : x5_1 < (l0.length : Int)
        · rw [if_pos c3] at H
          have c3b0 : decide (x5_1 < (l0.length : Int)) = true := decide_eq_true c3
          by_cases c4 : 0 ≤ x5_1
          · rw [if_pos c4] at H
            have c4b0 : decide (0 ≤ x5_1) = true := decide_eq_true c4
            obtain ⟨t, ht, H⟩ := Option.bind_eq_some_iff.mp H
            have HT := Aside0.mk ht
            have H' := Aside0.mk H
            clear ht H
            obtain ⟨A, c, xs, hcell, hxl, hxr⟩ := HI.out.1.hr (x5_1 : Int).toNat (by omega)
            have hrd : rd_L1 l0 x5_1 = l0[(x5_1 : Int).toNat]'(by omega) := by simp [rd_L1, List.getD_eq_getElem?_getD, show (x5_1 : Int).toNat < l0.length by omega]
            have hx5_0 : wr.cell? ⟨g, (x5_1 : Int).toNat, none⟩ = some (.slice A (l0[(x5_1 : Int).toNat]'(by omega)).length c) := by
              simp [World.cell?, HI.out.1.hg, hcell]
            rw [hrd, ← hxl] at HT
            rw [← hxl] at hx5_0 hxr
            have HXR := Aside0.mk hxr
            clear hcell hxr hxl hrd
            replace c3 := eq_true c3
            replace c4 := eq_true c4
            go_wp2_with fail
            refine (mk.calls (fun W => MkInv w0.heap.size P0_ g cur l0 W ∧ Below w0.heap.size w0 W ∧ Kept w W P0_) P0_ w0.heap.size (fun W b i x hI hP hb hc => ⟨hI.1.set b i x hc, below_set hI.2.1 hb, Kept.setCell hI.2.2 (p := ⟨b, i, none⟩) (.inl hP) _⟩) k1 _ xs x1_1 t _ HI.out HXR.out HT.out).mono ?_
            rintro e w1 ⟨rfl, hi1⟩
            have HI1 := Aside0.mk hi1
            clear hi1
            go_wp2
            go_roundg k1
            case measure => have := HK1.out; omega
            case rel => exact ⟨t, wrap64 (x5_1 + 1), by first | rfl | (simp; done), by first | rfl | (simp; done), H', ⟨by have := HK1.out; omega⟩, HI1⟩
          · rw [if_neg c4] at H
            exact absurd H (by simp)
        · rw [if_neg c3] at H
          have c3b0 : decide (x5_1 < (l0.length : Int)) = false := decide_eq_false c3
          clear c3
          obtain rfl := Option.some.inj H
          go_wp2
          go_ret
          exact ⟨rfl, HI.out.2⟩
  · obtain rfl : l0 = [] := List.length_eq_zero_iff.mp (by omega)
    obtain ⟨A, c, rfl⟩ := Kd.R_slice ho
    clear h ho hB hl
    obtain ⟨k, rfl⟩ : ∃ m, k = m + 1 := by
      cases k with
      | zero => exact absurd H'.out (by simp [laws_markIntSS.l0])
      | succ m => exact ⟨m, rfl⟩
    have h := H'.out
    simp only [laws_markIntSS.l0, List.length_nil, Int.lt_irrefl, Int.ofNat_zero, if_false] at h
    obtain rfl := Option.some.inj h
    clear h H'
    go_enter Try.func22, Try.ntmps22
    go_wp2
    go_loopg [1, 5] 1 (fun kq v1 v5 w' => v1 = .int .i64 a1 ∧ v5 = .int .i64 0 ∧ w' = w)
    case atStart => exact ⟨rfl, rfl, rfl⟩
    case round =>
      obtain ⟨rfl, rfl, rfl⟩ := hrel
      go_wp2
      go_ret
      exact ⟨rfl, HB.out, Kept.refl _ _⟩

/-! ### laws_heldIntS: function 29 -/
def laws_heldIntS.l0 : Nat → List Int → Int → Int → Option (Int)
  | 0, _, _, _ => none
  | k + 1, x0, x1, x5 => if x5 < (x0.length : Int) then (if 0 ≤ x5 then (if (rd x0 x5) = x1 then (laws_heldIntS.l0 k x0 (wrap64 (x1 + 1)) (wrap64 (x5 + 1))) else (some (-1))) else (none)) else (some x1)
def laws_heldIntS.f (k : Nat) (l0 : List Int) (a1 : Int) : Option (Int) := laws_heldIntS.l0 k l0 a1 0
theorem laws_heldIntS.mono_l : ∀ k, (∀ y0 y1 y2, LeO (laws_heldIntS.l0 k y0 y1 y2) (laws_heldIntS.l0 (k + 1) y0 y1 y2))
  | 0 => fun _ _ _ r h => by simp [laws_heldIntS.l0] at h
  | k + 1 => by
    have ih0 := laws_heldIntS.mono_l k
    · intro y0 y1 y2
      unfold laws_heldIntS.l0
      repeat' first
      | (with_reducible exact ih0 _ _ _)
      | (with_reducible exact LeO.refl _)
      | (with_reducible exact LeO.none _)
      | (with_reducible refine LeO.ite ?_ ?_)
      | (with_reducible refine LeO.bind ?_ (fun _ => ?_))
      | exact ih0 _ _ _
      | exact LeO.none _
      | refine LeO.ite ?_ ?_
      | refine LeO.bind ?_ (fun _ => ?_)
theorem laws_heldIntS.mono : ∀ a0 a1 k, LeO (laws_heldIntS.f k a0 a1) (laws_heldIntS.f (k + 1) a0 a1) := by
  intro a0 a1 k
  have ih0 := laws_heldIntS.mono_l k
  unfold laws_heldIntS.f
  repeat' first
      | (with_reducible exact ih0 _ _ _)
      | (with_reducible exact LeO.refl _)
      | (with_reducible exact LeO.none _)
      | (with_reducible refine LeO.ite ?_ ?_)
      | (with_reducible refine LeO.bind ?_ (fun _ => ?_))
      | exact ih0 _ _ _
      | exact LeO.none _
      | refine LeO.ite ?_ ?_
      | refine LeO.bind ?_ (fun _ => ?_)
set_option maxHeartbeats 8000000 in
set_option maxRecDepth 100000 in
theorem laws_heldIntS.calls (k : Nat) (A0 : Option Addr) (c0 : Nat) (l0 : List Int) (a1 : Int) (r : Int) (w : World) (hr0 : Kd.C (Kd.int .i64) w A0 l0.length l0) (hc0 : l0.length ≤ c0) (h : laws_heldIntS.f k l0 a1 = some r) :
    Calls Try.prog 29 #[.slice A0 l0.length c0, .int .i64 a1] w fun e w' => e = .returned (.int .i64 r) ∧ Drawn0 w w' := by
  have HR0 := Aside0.mk hr0
  have HC0 := Aside0.mk hc0
  clear hr0 hc0
  have H : (laws_heldIntS.l0 k l0 a1 0) = some r := h
  clear h
  have H' := Aside0.mk H
  clear H
  go_enter Try.func29, Try.ntmps29
  go_wp2
  go_loopg [1, 5] k (fun kq v1 v5 w' => ∃ (x1_1 : Int) (x5_1 : Int), v1 = .int .i64 x1_1 ∧ v5 = .int .i64 x5_1 ∧ Aside0 (laws_heldIntS.l0 kq l0 x1_1 x5_1 = some r) ∧ Aside0 (kq ≤ k) ∧ Drawn0 w w')
  case atStart => exact ⟨(a1), (0), (by first | rfl | (simp; done) | (simp [*]; done)), (by first | rfl | (simp; done) | (simp [*]; done)), H', ⟨Nat.le_refl _⟩, by repeat (first | exact Drawn0.refl _ | apply Drawn0.step)⟩
  case round =>
    clear H'
    try clear c2
    try clear p2
    obtain ⟨x1_1, x5_1, rfl, rfl, HA, HK1, ⟨m1, rfl⟩⟩ := hrel
    cases gk with
    | zero => exact absurd HA.out (by simp [laws_heldIntS.l0])
    | succ k1 =>
      have H := HA.out
      clear HA
      simp only [laws_heldIntS.l0] at H
      by_cases c3 : x5_1 < (l0.length : Int)
      · rw [if_pos c3] at H
        have c3b0 : decide (x5_1 < (l0.length : Int)) = true := decide_eq_true c3
        clear c3
        by_cases c4 : 0 ≤ x5_1
        · rw [if_pos c4] at H
          have c4b0 : decide (0 ≤ x5_1) = true := decide_eq_true c4
          clear c4
          by_cases c5 : (rd l0 x5_1) = x1_1
          · rw [if_pos c5] at H
            have c5b0 : ((rd l0 x5_1) == x1_1) = true := beq_iff_eq.mpr c5
            have c5b1 : ((rd l0 x5_1) != x1_1) = false := bne_eq_false_iff_eq.mpr c5
            clear c5
            have H' := Aside0.mk H
            clear H
            have p122 : 0 ≤ (x5_1 : Int) := of_decide_eq_true (by first | (with_reducible assumption) | assumption)
            have q122 : x5_1 < (l0.length : Int) := of_decide_eq_true (by first | (with_reducible assumption) | assumption)
            obtain ⟨ad122, e122, hx122_0⟩ := Kd.at_int HR0.out x5_1 p122 q122
            cases e122
            replace p122 := eq_true p122
            replace q122 := eq_true q122
            go_wp2
            go_roundg k1
            case measure => have := HK1.out; omega
            case rel => exact ⟨(wrap64 (x1_1 + 1)), (wrap64 (x5_1 + 1)), (by first | rfl | (simp; done) | (simp [*]; done)), (by first | rfl | (simp; done) | (simp [*]; done)), H', ⟨by have := HK1.out; omega⟩, by repeat (first | exact Drawn0.refl _ | apply Drawn0.step)⟩
          · rw [if_neg c5] at H
            have c5b0 : ((rd l0 x5_1) == x1_1) = false := beq_eq_false_iff_ne.mpr c5
            have c5b1 : ((rd l0 x5_1) != x1_1) = true := bne_iff_ne.mpr c5
            obtain rfl := Option.some.inj H
            have p122 : 0 ≤ (x5_1 : Int) := of_decide_eq_true (by first | (with_reducible assumption) | assumption)
            have q122 : x5_1 < (l0.length : Int) := of_decide_eq_true (by first | (with_reducible assumption) | assumption)
            obtain ⟨ad122, e122, hx122_0⟩ := Kd.at_int HR0.out x5_1 p122 q122
            cases e122
            replace p122 := eq_true p122
            replace q122 := eq_true q122
            go_wp2
            go_ret
            exact ⟨by first | rfl | (simp; done) | (simp [*]; done), by repeat (first | exact Drawn0.refl _ | apply Drawn0.step)⟩
        · rw [if_neg c4] at H
          exact absurd H (by simp)
      · rw [if_neg c3] at H
        have c3b0 : decide (x5_1 < (l0.length : Int)) = false := decide_eq_false c3
        clear c3
        obtain rfl := Option.some.inj H
        go_wp2
        go_ret
        exact ⟨by first | rfl | (simp; done) | (simp [*]; done), by repeat (first | exact Drawn0.refl _ | apply Drawn0.step)⟩

/-! ### spec_l01In: function 52 -/
def spec_l01In.f (a0 : Int) (a1 : Int) (a2 : Int) : Option (Bool) := if a0 ≥ a1 then (some (decide (a0 ≤ a2))) else (some false)
set_option maxHeartbeats 8000000 in
set_option maxRecDepth 100000 in
theorem spec_l01In.calls (a0 : Int) (a1 : Int) (a2 : Int) (r : Bool) (w : World) (h : spec_l01In.f a0 a1 a2 = some r) :
    Calls Try.prog 52 #[.int .i64 a0, .int .i64 a1, .int .i64 a2] w fun e w' => e = .returned (.bool r) ∧ Drawn0 w w' := by
  have H : (if a0 ≥ a1 then (some (decide (a0 ≤ a2))) else (some false)) = some r := h
  clear h
  by_cases c4 : a0 ≥ a1
  · rw [if_pos c4] at H
    have c4b0 : decide (a1 ≤ a0) = true := decide_eq_true c4
    clear c4
    obtain rfl := Option.some.inj H
    go_enter Try.func52, Try.ntmps52
    go_wp2
    go_ret
    exact ⟨by first | rfl | (simp; done) | (simp [*]; done), by repeat (first | exact Drawn0.refl _ | apply Drawn0.step)⟩
  · rw [if_neg c4] at H
    have c4b0 : decide (a1 ≤ a0) = false := decide_eq_false c4
    clear c4
    obtain rfl := Option.some.inj H
    go_enter Try.func52, Try.ntmps52
    go_wp2
    go_ret
    exact ⟨by first | rfl | (simp; done) | (simp [*]; done), by repeat (first | exact Drawn0.refl _ | apply Drawn0.step)⟩

/-! ### spec_l13Join: function 91 -/
def spec_l13Join.l0 : Nat → List Int → Int → Int → Int → Int → Option (Bool × List Int)
  | 0, _, _, _, _, _ => none
  | k + 1, x0, x1, x7, x24, x25 => if x25 < x24 then (if 0 ≤ x25 then (if x25 < (x0.length : Int) then (if (rd x0 x25) = x7 then (if 0 ≤ x1 then (if x1 < (x0.length : Int) then (spec_l13Join.l0 k (x0.set (x25 : Int).toNat (rd x0 x1)) x1 x7 x24 (wrap64 (x25 + 1))) else (none)) else (none)) else (spec_l13Join.l0 k x0 x1 x7 x24 (wrap64 (x25 + 1)))) else (none)) else (none)) else (some (true, x0))
def spec_l13Join.f (k : Nat) (l0 : List Int) (a1 : Int) (a2 : Int) : Option (Bool × List Int) := if 0 ≤ a1 then (if a1 < (l0.length : Int) then (if 0 ≤ a2 then (if a2 < (l0.length : Int) then (if (rd l0 a1) = (rd l0 a2) then (some (false, l0)) else (spec_l13Join.l0 k l0 a1 (rd l0 a2) (l0.length : Int) 0)) else (none)) else (none)) else (none)) else (none)
theorem spec_l13Join.mono_l : ∀ k, (∀ y0 y1 y2 y3 y4, LeO (spec_l13Join.l0 k y0 y1 y2 y3 y4) (spec_l13Join.l0 (k + 1) y0 y1 y2 y3 y4))
  | 0 => fun _ _ _ _ _ r h => by simp [spec_l13Join.l0] at h
  | k + 1 => by
    have ih0 := spec_l13Join.mono_l k
    · intro y0 y1 y2 y3 y4
      unfold spec_l13Join.l0
      repeat' first
      | (with_reducible exact ih0 _ _ _ _ _)
      | (with_reducible exact LeO.refl _)
      | (with_reducible exact LeO.none _)
      | (with_reducible refine LeO.ite ?_ ?_)
      | (with_reducible refine LeO.bind ?_ (fun _ => ?_))
      | exact ih0 _ _ _ _ _
      | exact LeO.none _
      | refine LeO.ite ?_ ?_
      | refine LeO.bind ?_ (fun _ => ?_)
theorem spec_l13Join.mono : ∀ a0 a1 a2 k, LeO (spec_l13Join.f k a0 a1 a2) (spec_l13Join.f (k + 1) a0 a1 a2) := by
  intro a0 a1 a2 k
  have ih0 := spec_l13Join.mono_l k
  unfold spec_l13Join.f
  repeat' first
      | (with_reducible exact ih0 _ _ _ _ _)
      | (with_reducible exact LeO.refl _)
      | (with_reducible exact LeO.none _)
      | (with_reducible refine LeO.ite ?_ ?_)
      | (with_reducible refine LeO.bind ?_ (fun _ => ?_))
      | exact ih0 _ _ _ _ _
      | exact LeO.none _
      | refine LeO.ite ?_ ?_
      | refine LeO.bind ?_ (fun _ => ?_)
set_option maxHeartbeats 8000000 in
set_option maxRecDepth 100000 in
theorem spec_l13Join.calls (k : Nat) (P0_ : Nat → Prop) (u9000_ : Value) (l0 : List Int) (a1 : Int) (a2 : Int) (r1 : Bool) (r2 : List Int) (w0 w : World) (hB : Below w0.heap.size w0 w) (ho0 : Kd.R (Kd.int .i64) 3 w w0.heap.size P0_ u9000_ l0) (h : spec_l13Join.f k l0 a1 a2 = some (r1, r2)) :
    Calls Try.prog 91 #[u9000_, .int .i64 a1, .int .i64 a2] w fun e w' => e = .returned (.bool r1) ∧ Kd.R (Kd.int .i64) 3 w' w0.heap.size (fun k_ => (P0_ k_ ∨ w.heap.size ≤ k_)) u9000_ r2 ∧ Below w0.heap.size w0 w' ∧ Kept w w' (fun k_ => P0_ k_) := by
  have HO0 := Aside0.mk (show Kd.R (Kd.int .i64) 3 w w0.heap.size (fun k_ => (P0_ k_ ∨ w.heap.size ≤ k_)) u9000_ l0 from Kd.R_mono ho0 (fun k_ hk => (.inl hk)))
  have HK := Aside0.mk (Kept.refl w (fun k_ => P0_ k_))
  have HW0 := Aside0.mk hB.size
  have HB := Aside0.mk hB
  clear hB
  have H : (if 0 ≤ a1 then (if a1 < (l0.length : Int) then (if 0 ≤ a2 then (if a2 < (l0.length : Int) then (if (rd l0 a1) = (rd l0 a2) then (some (false, l0)) else (spec_l13Join.l0 k l0 a1 (rd l0 a2) (l0.length : Int) 0)) else (none)) else (none)) else (none)) else (none)) = some (r1, r2) := h
  clear h
  by_cases c4 : 0 ≤ a1
  · rw [if_pos c4] at H
    have c4b0 : decide (0 ≤ a1) = true := decide_eq_true c4
    clear c4
    by_cases c5 : a1 < (l0.length : Int)
    · rw [if_pos c5] at H
      have c5b0 : decide (a1 < (l0.length : Int)) = true := decide_eq_true c5
      clear c5
      by_cases c6 : 0 ≤ a2
      · rw [if_pos c6] at H
        have c6b0 : decide (0 ≤ a2) = true := decide_eq_true c6
        clear c6
        by_cases c7 : a2 < (l0.length : Int)
        · rw [if_pos c7] at H
          have c7b0 : decide (a2 < (l0.length : Int)) = true := decide_eq_true c7
          clear c7
          by_cases c8 : (rd l0 a1) = (rd l0 a2)
          · rw [if_pos c8] at H
            have c8b0 : ((rd l0 a1) == (rd l0 a2)) = true := beq_iff_eq.mpr c8
            have c8b1 : ((rd l0 a1) != (rd l0 a2)) = false := bne_eq_false_iff_eq.mpr c8
            clear c8
            simp only [Option.some.injEq, Prod.mk.injEq] at H
            obtain ⟨rfl, rfl⟩ := H
            obtain ⟨Ao9, co9, eo9⟩ := Kd.R_slice HO0.out
            subst eo9
            have p123 : 0 ≤ (a1 : Int) := of_decide_eq_true (by first | (with_reducible assumption) | assumption)
            have q123 : a1 < (l0.length : Int) := of_decide_eq_true (by first | (with_reducible assumption) | assumption)
            obtain ⟨ad123, e123, hx123_0⟩ := Kd.at_int (Kd.R_reads' HO0.out).2.2 a1 p123 q123
            cases e123
            replace p123 := eq_true p123
            replace q123 := eq_true q123
            have p124 : 0 ≤ (a2 : Int) := of_decide_eq_true (by first | (with_reducible assumption) | assumption)
            have q124 : a2 < (l0.length : Int) := of_decide_eq_true (by first | (with_reducible assumption) | assumption)
            obtain ⟨ad124, e124, hx124_0⟩ := Kd.at_int (Kd.R_reads' HO0.out).2.2 a2 p124 q124
            obtain rfl : ad123 = ad124 := (by injection e124)
            replace p124 := eq_true p124
            replace q124 := eq_true q124
            go_enter Try.func91, Try.ntmps91
            go_wp2
            repeat (go_quiet (fail); try go_wp2)
            go_ret
            exact ⟨by first | rfl | (simp [errW_none, errW_some] <;> rfl) | (simp [*, errW_none, errW_some] <;> rfl), by (with_reducible repeat (first | apply Kd.R_alloc | apply Kd.R_drewN | apply Kd.R_drew)); exact HO0.out, by repeat (first | (with_reducible first | exact HB.out | apply below_alloc | apply pw_below_drewN | apply below_drew1) | exact HB.out), by repeat (first | (with_reducible first | exact HK.out | apply Kept.alloc | apply Kept.drewN | apply Kept.drew) | exact HK.out)⟩
          · rw [if_neg c8] at H
            have c8b0 : ((rd l0 a1) == (rd l0 a2)) = false := beq_eq_false_iff_ne.mpr c8
            have c8b1 : ((rd l0 a1) != (rd l0 a2)) = true := bne_iff_ne.mpr c8
            have H' := Aside0.mk H
            clear H
            obtain ⟨Ao10, co10, eo10⟩ := Kd.R_slice HO0.out
            subst eo10
            have p123 : 0 ≤ (a1 : Int) := of_decide_eq_true (by first | (with_reducible assumption) | assumption)
            have q123 : a1 < (l0.length : Int) := of_decide_eq_true (by first | (with_reducible assumption) | assumption)
            obtain ⟨ad123, e123, hx123_0⟩ := Kd.at_int (Kd.R_reads' HO0.out).2.2 a1 p123 q123
            cases e123
            replace p123 := eq_true p123
            replace q123 := eq_true q123
            have p124 : 0 ≤ (a2 : Int) := of_decide_eq_true (by first | (with_reducible assumption) | assumption)
            have q124 : a2 < (l0.length : Int) := of_decide_eq_true (by first | (with_reducible assumption) | assumption)
            obtain ⟨ad124, e124, hx124_0⟩ := Kd.at_int (Kd.R_reads' HO0.out).2.2 a2 p124 q124
            obtain rfl : ad123 = ad124 := (by injection e124)
            replace p124 := eq_true p124
            replace q124 := eq_true q124
            have p125 : 0 ≤ (a2 : Int) := of_decide_eq_true (by first | (with_reducible assumption) | assumption)
            have q125 : a2 < (l0.length : Int) := of_decide_eq_true (by first | (with_reducible assumption) | assumption)
            obtain ⟨ad125, e125, hx125_0⟩ := Kd.at_int (Kd.R_reads' HO0.out).2.2 a2 p125 q125
            obtain rfl : ad123 = ad125 := (by injection e125)
            replace p125 := eq_true p125
            replace q125 := eq_true q125
            go_enter Try.func91, Try.ntmps91
            go_wp2
            repeat (go_quiet (fail); try go_wp2)
            go_loopg [25] k (fun kq v25 w' => ∃ (x0_1 : List Int) (x25_1 : Int), v25 = .int .i64 x25_1 ∧ Aside0 (spec_l13Join.l0 kq x0_1 a1 (rd l0 a2) (l0.length : Int) x25_1 = some (r1, r2)) ∧ Aside0 (kq ≤ k) ∧ Aside0 (Kd.R (Kd.int .i64) 3 w' w0.heap.size (fun k_ => (P0_ k_ ∨ w.heap.size ≤ k_)) (.slice (some ad123) l0.length co10) x0_1) ∧ Aside0 (Kept w w' (fun k_ => P0_ k_)) ∧ Aside0 (Below w0.heap.size w0 w'))
            case atStart => exact ⟨(l0), (0), (by first | rfl | (simp; done) | (simp [*]; done)), H', ⟨Nat.le_refl _⟩, ⟨by (with_reducible repeat (first | apply Kd.R_alloc | apply Kd.R_drewN | apply Kd.R_drew)); exact HO0.out⟩, ⟨by repeat (first | (with_reducible first | exact HK.out | apply Kept.alloc | apply Kept.drewN | apply Kept.drew) | exact HK.out)⟩, ⟨by repeat (first | (with_reducible first | exact HB.out | apply below_alloc | apply pw_below_drewN | apply below_drew1) | exact HB.out)⟩⟩
            case round =>
              clear H'
              try clear p1
              try clear q1
              try clear hx1
              try clear p2
              try clear c4
              try clear c4b0
              try clear c5
              try clear c5b0
              try clear c6
              try clear c6b0
              try clear c7
              try clear c7b0
              try clear c8
              try clear c8b0
              try clear c8b1
              try clear c9
              try clear hx123_0
              try clear hx124_0
              try clear hx125_0
              try clear p123
              try clear p124
              try clear p125
              try clear q123
              try clear q124
              try clear q125
              obtain ⟨x0_1, x25_1, rfl, HA, HK1, HO_0, HK, HB⟩ := hrel
              have hl0_1 := (Kd.R_reads' HO_0.out).1
              rw [hl0_1] at HO_0
              (try simp only [hl0_1])
              cases gk with
              | zero => exact absurd HA.out (by simp [spec_l13Join.l0])
              | succ k1 =>
                have H := HA.out
                clear HA
                simp only [spec_l13Join.l0] at H
                by_cases c11 : x25_1 < (l0.length : Int)
                · rw [if_pos c11] at H
                  have c11b0 : decide (x25_1 < (l0.length : Int)) = true := decide_eq_true c11
                  (try (have c11b0s := c11b0; simp only [hl0_1] at c11b0s))
                  clear c11
                  by_cases c12 : 0 ≤ x25_1
                  · rw [if_pos c12] at H
                    have c12b0 : decide (0 ≤ x25_1) = true := decide_eq_true c12
                    clear c12
                    by_cases c13 : x25_1 < (x0_1.length : Int)
                    · rw [if_pos c13] at H
                      have c13b0 : decide (x25_1 < (x0_1.length : Int)) = true := decide_eq_true c13
                      (try (have c13b0s := c13b0; simp only [hl0_1] at c13b0s))
                      clear c13
                      by_cases c14 : (rd x0_1 x25_1) = (rd l0 a2)
                      · rw [if_pos c14] at H
                        have c14b0 : ((rd x0_1 x25_1) == (rd l0 a2)) = true := beq_iff_eq.mpr c14
                        have c14b1 : ((rd x0_1 x25_1) != (rd l0 a2)) = false := bne_eq_false_iff_eq.mpr c14
                        clear c14
                        by_cases c15 : 0 ≤ a1
                        · rw [if_pos c15] at H
                          have c15b0 : decide (0 ≤ a1) = true := decide_eq_true c15
                          clear c15
                          by_cases c16 : a1 < (x0_1.length : Int)
                          · rw [if_pos c16] at H
                            have c16b0 : decide (a1 < (x0_1.length : Int)) = true := decide_eq_true c16
                            (try (have c16b0s := c16b0; simp only [hl0_1] at c16b0s))
                            clear c16
                            obtain ⟨y128, hy128⟩ : ∃ y_ : List Int, y_ = (x0_1.set (x25_1 : Int).toNat (rd x0_1 a1)) := ⟨_, rfl⟩
                            replace H : (spec_l13Join.l0 k1 y128 a1 (rd l0 a2) (l0.length : Int) (wrap64 (x25_1 + 1))) = some (r1, r2) := by first | (rw [hy128]; with_reducible exact H) | (have H2_ := (Option.bind_some _ _).symm.trans H; rw [hy128]; with_reducible exact H2_) | (have H2_ := (Option.bind_some _ _).symm.trans H; with_reducible exact H2_) | with_reducible exact H | (rw [hy128]; exact H) | exact H
                            have Ny128 := Aside0.mk hy128
                            clear hy128
                            have H' := Aside0.mk H
                            clear H
                            have p126 : 0 ≤ (x25_1 : Int) := of_decide_eq_true (by first | (with_reducible assumption) | assumption)
                            have q126 : x25_1 < (x0_1.length : Int) := of_decide_eq_true (by first | (with_reducible assumption) | assumption)
                            obtain ⟨ad126, e126, hx126_0⟩ := Kd.at_int (Kd.R_reads' HO_0.out).2.2 x25_1 p126 q126
                            obtain rfl : ad123 = ad126 := (by injection e126)
                            replace p126 := eq_true p126
                            replace q126 := eq_true q126
                            have p127 : 0 ≤ (a1 : Int) := of_decide_eq_true (by first | (with_reducible assumption) | assumption)
                            have q127 : a1 < (x0_1.length : Int) := of_decide_eq_true (by first | (with_reducible assumption) | assumption)
                            obtain ⟨ad127, e127, hx127_0⟩ := Kd.at_int (Kd.R_reads' HO_0.out).2.2 a1 p127 q127
                            obtain rfl : ad123 = ad127 := (by injection e127)
                            replace p127 := eq_true p127
                            replace q127 := eq_true q127
                            have p17 : 0 ≤ (x25_1 : Int) := of_decide_eq_true (by first | (with_reducible assumption) | assumption)
                            have q17 : (x25_1 : Int) < ((x0_1.length : Int) : Int) := of_decide_eq_true (by first | (with_reducible assumption) | assumption)
                            obtain ⟨go17, co17, eo17, gb17, gl17, cl17, HG17⟩ := Kd.R_form HO_0.out (by omega)
                            (first | cases eo17 | (injection eo17 with ea_ en_ ec_; (first | subst ea_ | (injection ea_ with ea_; subst ea_)); subst ec_; clear en_))
                            have GB17 := Aside0.mk gb17
                            have GG17 := Aside0.mk HG17
                            clear gb17 gl17 HG17
                            have HMgo17 := Aside0.mk (show (P0_ go17 ∨ w.heap.size ≤ go17) from (HO_0.out.1 _ rfl))
                            (first | simp only [add_plain] at hx123_0 | skip)
                            (first | simp only [add_plain] at hx124_0 | skip)
                            (first | simp only [add_plain] at hx125_0 | skip)
                            (first | simp only [add_plain] at hx126_0 | skip)
                            (first | simp only [add_plain] at hx127_0 | skip)
                            obtain ⟨hx17_0, hf17_0⟩ := Kd.R_celln 0 HO_0.out (x25_1 : Int) p17 q17
                            replace p17 := eq_true p17
                            replace q17 := eq_true q17
                            have HP18 := Kd.R_putg HO_0.out (x25_1 : Int) (rd x0_1 a1)
                            go_wp2_with (first | ((with_reducible refine gate_store (t := 3) (p := 39) rfl ?_); (try (rw [drewN_self wr]; generalize hq_ : World.drewN wr _ = wr; have n0_ := Aside0.mk (Kd.R_at hq_ HO_0.out); have n1_ := Aside0.mk (kept_at hq_ HK.out); have n2_ := Aside0.mk (below_at hq_ HB.out); clear hq_ HO_0 HK HB; have HO_0 := n0_; have HK := n1_; have HB := n2_; clear n0_ n1_ n2_; (try (have HP18 := Kd.R_putg HO_0.out (x25_1 : Int) (rd x0_1 a1))))); refine store_event (t := 3) (p := 39) (v := ?vo_w19) (w1 := (wr.setCell ⟨go17, (x25_1 : Int).toNat, none⟩ (.int .i64 (rd x0_1 a1)))) ?hg ?ho ?hn ?hr ?_; (case ho => rfl); (case hg => rfl); (case hn => rfl); (case hr => first | (go_simp; done) | (go_simp; rfl)); intro w19 hw; have hg : wr.grownBy w19 (some go17) := (by rw [hw]; exact HP18.2); have hp_ : Kd.R (Kd.int .i64) 3 w19 w0.heap.size (fun k_ => (P0_ k_ ∨ w.heap.size ≤ k_)) (.slice (some ⟨go17, 0, none⟩) x0_1.length co10) y128 := (by rw [hw, Ny128.out]; exact HP18.1); clear HP18; have n0_ := Aside0.mk (hp_); have n1_ := Aside0.mk ((by rw [hw]; exact below_set (HB.out) GB17.out : Below w0.heap.size w0 w19)); have n2_ := Aside0.mk (Kept.of_grown (S := (fun k_ => P0_ k_)) hg (by repeat (first | (with_reducible first | exact HK.out | apply Kept.alloc | apply Kept.drewN | apply Kept.drew) | exact HK.out)) (fun k_ e_ => (HO_0.out.1 k_ e_))); clear HO_0; clear HB; clear HK; have HO_0 := n0_; have HB := n1_; have HK := n2_; clear n0_ n1_ n2_; clear hg hw hp_))
                            repeat (go_quiet (first | ((with_reducible refine gate_store (t := 3) (p := 39) rfl ?_); (try (rw [drewN_self wr]; generalize hq_ : World.drewN wr _ = wr; have n0_ := Aside0.mk (Kd.R_at hq_ HO_0.out); have n1_ := Aside0.mk (kept_at hq_ HK.out); have n2_ := Aside0.mk (below_at hq_ HB.out); clear hq_ HO_0 HK HB; have HO_0 := n0_; have HK := n1_; have HB := n2_; clear n0_ n1_ n2_; (try (have HP18 := Kd.R_putg HO_0.out (x25_1 : Int) (rd x0_1 a1))))); refine store_event (t := 3) (p := 39) (v := ?vo_w19) (w1 := (wr.setCell ⟨go17, (x25_1 : Int).toNat, none⟩ (.int .i64 (rd x0_1 a1)))) ?hg ?ho ?hn ?hr ?_; (case ho => rfl); (case hg => rfl); (case hn => rfl); (case hr => first | (go_simp; done) | (go_simp; rfl)); intro w19 hw; have hg : wr.grownBy w19 (some go17) := (by rw [hw]; exact HP18.2); have hp_ : Kd.R (Kd.int .i64) 3 w19 w0.heap.size (fun k_ => (P0_ k_ ∨ w.heap.size ≤ k_)) (.slice (some ⟨go17, 0, none⟩) x0_1.length co10) y128 := (by rw [hw, Ny128.out]; exact HP18.1); clear HP18; have n0_ := Aside0.mk (hp_); have n1_ := Aside0.mk ((by rw [hw]; exact below_set (HB.out) GB17.out : Below w0.heap.size w0 w19)); have n2_ := Aside0.mk (Kept.of_grown (S := (fun k_ => P0_ k_)) hg (by repeat (first | (with_reducible first | exact HK.out | apply Kept.alloc | apply Kept.drewN | apply Kept.drew) | exact HK.out)) (fun k_ e_ => (HO_0.out.1 k_ e_))); clear HO_0; clear HB; clear HK; have HO_0 := n0_; have HB := n1_; have HK := n2_; clear n0_ n1_ n2_; clear hg hw hp_)); try go_wp2_with (first | ((with_reducible refine gate_store (t := 3) (p := 39) rfl ?_); (try (rw [drewN_self wr]; generalize hq_ : World.drewN wr _ = wr; have n0_ := Aside0.mk (Kd.R_at hq_ HO_0.out); have n1_ := Aside0.mk (kept_at hq_ HK.out); have n2_ := Aside0.mk (below_at hq_ HB.out); clear hq_ HO_0 HK HB; have HO_0 := n0_; have HK := n1_; have HB := n2_; clear n0_ n1_ n2_; (try (have HP18 := Kd.R_putg HO_0.out (x25_1 : Int) (rd x0_1 a1))))); refine store_event (t := 3) (p := 39) (v := ?vo_w19) (w1 := (wr.setCell ⟨go17, (x25_1 : Int).toNat, none⟩ (.int .i64 (rd x0_1 a1)))) ?hg ?ho ?hn ?hr ?_; (case ho => rfl); (case hg => rfl); (case hn => rfl); (case hr => first | (go_simp; done) | (go_simp; rfl)); intro w19 hw; have hg : wr.grownBy w19 (some go17) := (by rw [hw]; exact HP18.2); have hp_ : Kd.R (Kd.int .i64) 3 w19 w0.heap.size (fun k_ => (P0_ k_ ∨ w.heap.size ≤ k_)) (.slice (some ⟨go17, 0, none⟩) x0_1.length co10) y128 := (by rw [hw, Ny128.out]; exact HP18.1); clear HP18; have n0_ := Aside0.mk (hp_); have n1_ := Aside0.mk ((by rw [hw]; exact below_set (HB.out) GB17.out : Below w0.heap.size w0 w19)); have n2_ := Aside0.mk (Kept.of_grown (S := (fun k_ => P0_ k_)) hg (by repeat (first | (with_reducible first | exact HK.out | apply Kept.alloc | apply Kept.drewN | apply Kept.drew) | exact HK.out)) (fun k_ e_ => (HO_0.out.1 k_ e_))); clear HO_0; clear HB; clear HK; have HO_0 := n0_; have HB := n1_; have HK := n2_; clear n0_ n1_ n2_; clear hg hw hp_)))
                            (try simp only [← hl0_1])
                            (try simp only [add_plain] at *)
                            go_roundg k1
                            case measure => have := HK1.out; omega
                            case rel => exact ⟨(y128), (wrap64 (x25_1 + 1)), (by first | rfl | (simp; done) | (simp [*]; done)), H', ⟨by have := HK1.out; omega⟩, ⟨by (try simp only [hl0_1]); (with_reducible repeat (first | apply Kd.R_alloc | apply Kd.R_drewN | apply Kd.R_drew)); exact HO_0.out⟩, ⟨by repeat (first | (with_reducible first | exact HK.out | apply Kept.alloc | apply Kept.drewN | apply Kept.drew) | exact HK.out)⟩, ⟨by repeat (first | (with_reducible first | exact HB.out | apply below_alloc | apply pw_below_drewN | apply below_drew1) | exact HB.out)⟩⟩
                          · rw [if_neg c16] at H
                            exact absurd H (by simp)
                        · rw [if_neg c15] at H
                          exact absurd H (by simp)
                      · rw [if_neg c14] at H
                        have c14b0 : ((rd x0_1 x25_1) == (rd l0 a2)) = false := beq_eq_false_iff_ne.mpr c14
                        have c14b1 : ((rd x0_1 x25_1) != (rd l0 a2)) = true := bne_iff_ne.mpr c14
                        have H' := Aside0.mk H
                        clear H
                        have p126 : 0 ≤ (x25_1 : Int) := of_decide_eq_true (by first | (with_reducible assumption) | assumption)
                        have q126 : x25_1 < (x0_1.length : Int) := of_decide_eq_true (by first | (with_reducible assumption) | assumption)
                        obtain ⟨ad126, e126, hx126_0⟩ := Kd.at_int (Kd.R_reads' HO_0.out).2.2 x25_1 p126 q126
                        obtain rfl : ad123 = ad126 := (by injection e126)
                        replace p126 := eq_true p126
                        replace q126 := eq_true q126
                        go_wp2
                        repeat (go_quiet (fail); try go_wp2)
                        (try simp only [← hl0_1])
                        (try simp only [add_plain] at *)
                        go_roundg k1
                        case measure => have := HK1.out; omega
                        case rel => exact ⟨(x0_1), (wrap64 (x25_1 + 1)), (by first | rfl | (simp; done) | (simp [*]; done)), H', ⟨by have := HK1.out; omega⟩, ⟨by (try simp only [hl0_1]); (with_reducible repeat (first | apply Kd.R_alloc | apply Kd.R_drewN | apply Kd.R_drew)); exact HO_0.out⟩, ⟨by repeat (first | (with_reducible first | exact HK.out | apply Kept.alloc | apply Kept.drewN | apply Kept.drew) | exact HK.out)⟩, ⟨by repeat (first | (with_reducible first | exact HB.out | apply below_alloc | apply pw_below_drewN | apply below_drew1) | exact HB.out)⟩⟩
                    · rw [if_neg c13] at H
                      exact absurd H (by simp)
                  · rw [if_neg c12] at H
                    exact absurd H (by simp)
                · rw [if_neg c11] at H
                  have c11b0 : decide (x25_1 < (l0.length : Int)) = false := decide_eq_false c11
                  (try (have c11b0s := c11b0; simp only [hl0_1] at c11b0s))
                  clear c11
                  simp only [Option.some.injEq, Prod.mk.injEq] at H
                  obtain ⟨rfl, rfl⟩ := H
                  go_wp2
                  repeat (go_quiet (fail); try go_wp2)
                  go_ret
                  exact ⟨by first | rfl | (simp [errW_none, errW_some] <;> rfl) | (simp [*, errW_none, errW_some] <;> rfl), (by first | exact (by (with_reducible repeat (first | apply Kd.R_alloc | apply Kd.R_drewN | apply Kd.R_drew)); exact HO_0.out) | (simp only [hl0_1]; exact (by (with_reducible repeat (first | apply Kd.R_alloc | apply Kd.R_drewN | apply Kd.R_drew)); exact HO_0.out))), by repeat (first | (with_reducible first | exact HB.out | apply below_alloc | apply pw_below_drewN | apply below_drew1) | exact HB.out), by repeat (first | (with_reducible first | exact HK.out | apply Kept.alloc | apply Kept.drewN | apply Kept.drew) | exact HK.out)⟩
        · rw [if_neg c7] at H
          exact absurd H (by simp)
      · rw [if_neg c6] at H
        exact absurd H (by simp)
    · rw [if_neg c5] at H
      exact absurd H (by simp)
  · rw [if_neg c4] at H
    exact absurd H (by simp)

end Go.Proofs.Ytmokeeakgacadaa.XFnExactPotentialsOf
