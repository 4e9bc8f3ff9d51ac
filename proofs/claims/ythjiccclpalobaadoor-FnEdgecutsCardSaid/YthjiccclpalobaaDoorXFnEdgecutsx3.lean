/- What functions of the program compute, as plain Lean functions, and that Go's calls come to just that: written by wip/tools/xprint.py for the law FnEdgecuts. -/
import Derived.Test.YthjiccclpalobaaDoorXFnEdgecutsx0
import Derived.Test.YthjiccclpalobaaDoorXFnEdgecutsx1
import Derived.Test.YthjiccclpalobaaDoorXFnEdgecutsx2
namespace Go.Proofs.YthjiccclpalobaaDoor.XFnEdgecuts
open Go.RowKit Go.Proofs.YthjiccclpalobaaDoorW.PrintWords Go.Proofs.YthjiccclpalobaaDoorW.PrintLast Go.Proofs.YthjiccclpalobaaDoorW.PrintMore
attribute [local go_sem] max2_int min2_int max_two min_two max_three min_three max_four min_four   -- for this text's walks alone
set_option linter.unusedVariables false
set_option linter.unusedSimpArgs false

/-! ### impl_BestPlan: function 8 -/
/-! BestPlan: the texts of a plan, by a closure that calls itself through its variable -/
def fmtK (n : Nat) : ByteArray := if n < 10 then ⟨#[UInt8.ofNat (48 + n)]⟩ else ⟨#[49, UInt8.ofNat (38 + n)]⟩
def wareK (n : Nat) : ByteArray := ⟨#[UInt8.ofNat (97 + n)]⟩
def cutK (ch : UInt8) (c : Int) (s t : ByteArray) : ByteArray := (((((⟨#[ch]⟩ : ByteArray) ++ fmtK c.toNat) ++ ⟨#[40]⟩) ++ s) ++ t) ++ ⟨#[41]⟩
mutual
def bps.plan : Nat → List Int → List (List Int) → Int → Int → Option ByteArray
  | 0, _, _, _, _ => none
  | k + 1, xs, ps, a, b => if (0 ≤ a ∧ a < 17) ∧ 0 ≤ b ∧ b < 17 then (if xs.getD (a.toNat * 17 + b.toNat) 0 = 0 then some ⟨#[46]⟩ else bps.ware k xs ps a b (xs.getD (a.toNat * 17 + b.toNat) 0) 0) else none
def bps.ware : Nat → List Int → List (List Int) → Int → Int → Int → Int → Option ByteArray
  | 0, _, _, _, _, _, _ => none
  | k + 1, xs, ps, a, b, v, i => if i < (ps.length : Int) then (if 0 ≤ i ∧ i < 6 ∧ (rd_L2 ps i).length = 3 then (if rd (rd_L2 ps i) 0 = a then (if rd (rd_L2 ps i) 1 = b then (if rd (rd_L2 ps i) 2 = v then some (wareK i.toNat) else bps.ware k xs ps a b v (wrap64 (i + 1))) else bps.ware k xs ps a b v (wrap64 (i + 1))) else bps.ware k xs ps a b v (wrap64 (i + 1))) else none) else bps.cv k xs ps a b v 1
def bps.cv : Nat → List Int → List (List Int) → Int → Int → Int → Int → Option ByteArray
  | 0, _, _, _, _, _, _ => none
  | k + 1, xs, ps, a, b, v, c => if c < a then (if (0 ≤ c ∧ a < 17) ∧ (0 ≤ b ∧ b < 17) ∧ 0 ≤ wrap64 (a - c) ∧ wrap64 (a - c) < 17 then (if wrap64 (xs.getD (c.toNat * 17 + b.toNat) 0 + xs.getD ((wrap64 (a - c)).toNat * 17 + b.toNat) 0) = v then ((bps.plan k xs ps c b).bind fun s => (bps.plan k xs ps (wrap64 (a - c)) b).bind fun t => if s.size < 100000 ∧ t.size < 100000 then some (cutK 118 c s t) else none) else bps.cv k xs ps a b v (wrap64 (c + 1))) else none) else bps.ch k xs ps a b v 1
def bps.ch : Nat → List Int → List (List Int) → Int → Int → Int → Int → Option ByteArray
  | 0, _, _, _, _, _, _ => none
  | k + 1, xs, ps, a, b, v, c => if c < b then (if (0 ≤ c ∧ b < 17) ∧ (0 ≤ a ∧ a < 17) ∧ 0 ≤ wrap64 (b - c) ∧ wrap64 (b - c) < 17 then (if wrap64 (xs.getD (a.toNat * 17 + c.toNat) 0 + xs.getD (a.toNat * 17 + (wrap64 (b - c)).toNat) 0) = v then ((bps.plan k xs ps a c).bind fun s => (bps.plan k xs ps a (wrap64 (b - c))).bind fun t => if s.size < 100000 ∧ t.size < 100000 then some (cutK 104 c s t) else none) else bps.ch k xs ps a b v (wrap64 (c + 1))) else none) else some ⟨#[]⟩
end
theorem bps.mono_l (xs : List Int) (ps : List (List Int)) : ∀ k, (∀ a b, LeO (bps.plan k xs ps a b) (bps.plan (k + 1) xs ps a b)) ∧ (∀ a b v i, LeO (bps.ware k xs ps a b v i) (bps.ware (k + 1) xs ps a b v i)) ∧ (∀ a b v i, LeO (bps.cv k xs ps a b v i) (bps.cv (k + 1) xs ps a b v i)) ∧ (∀ a b v i, LeO (bps.ch k xs ps a b v i) (bps.ch (k + 1) xs ps a b v i))
  | 0 => ⟨fun _ _ r h => by simp [bps.plan] at h, fun _ _ _ _ r h => by simp [bps.ware] at h, fun _ _ _ _ r h => by simp [bps.cv] at h, fun _ _ _ _ r h => by simp [bps.ch] at h⟩
  | k + 1 => by
    obtain ⟨ih0, ih1, ih2, ih3⟩ := bps.mono_l xs ps k
    refine ⟨?_, ?_, ?_, ?_⟩
    · intro a b
      unfold bps.plan
      repeat' first
        | (with_reducible exact ih1 _ _ _ _)
        | (with_reducible exact LeO.refl _)
        | (with_reducible refine LeO.ite ?_ ?_)
    · intro a b v i
      unfold bps.ware
      repeat' first
        | (with_reducible exact ih1 _ _ _ _)
        | (with_reducible exact ih2 _ _ _ _)
        | (with_reducible exact LeO.refl _)
        | (with_reducible refine LeO.ite ?_ ?_)
    · intro a b v i
      unfold bps.cv
      repeat' first
        | (with_reducible exact ih0 _ _)
        | (with_reducible exact ih2 _ _ _ _)
        | (with_reducible exact ih3 _ _ _ _)
        | (with_reducible exact LeO.refl _)
        | (with_reducible refine LeO.ite ?_ ?_)
        | (with_reducible refine LeO.bind ?_ (fun _ => ?_))
    · intro a b v i
      unfold bps.ch
      repeat' first
        | (with_reducible exact ih0 _ _)
        | (with_reducible exact ih3 _ _ _ _)
        | (with_reducible exact LeO.refl _)
        | (with_reducible refine LeO.ite ?_ ?_)
        | (with_reducible refine LeO.bind ?_ (fun _ => ?_))
structure BpI (w0 W : World) (bb bw bf : Nat) (xs : List Int) (vw vf : Value) : Prop where
  t : W.heap[bb]? = some (.cells (xs.map (Value.int .i64)).toArray 44 (0, 0))
  cw : W.heap[bw]? = some (.cells #[vw] 23 (0, 0))
  cf : W.heap[bf]? = some (.cells #[vf] 46 (0, 0))
  b : Below w0.heap.size w0 W
  len : xs.length = 289
section
variable {w0 W W' : World} {bb bw bf : Nat} {xs : List Int} {vw vf : Value}
theorem bp_lt {b : Nat} {o : Obj} (h : W.heap[b]? = some o) : b < W.heap.size := (Array.getElem?_eq_some_iff.1 h).1
theorem BpI.below (h : BpI w0 W bb bw bf xs vw vf) (hb : Below W.heap.size W W') : BpI w0 W' bb bw bf xs vw vf :=
  ⟨(hb.block _ (bp_lt h.t)).trans h.t, (hb.block _ (bp_lt h.cw)).trans h.cw, (hb.block _ (bp_lt h.cf)).trans h.cf, below_step h.b hb, h.len⟩
theorem BpI.cell (h : BpI w0 W bb bw bf xs vw vf) (j : Nat) (hj : j < 289) : W.cell? ⟨bb, j, none⟩ = some (.int .i64 (xs.getD j 0)) := by
  have hl := h.len
  simp [World.cell?, h.t, List.getD_eq_getElem?_getD, show j < xs.length by omega]
theorem bp_cell {b t : Nat} {v : Value} (h : W.heap[b]? = some (.cells #[v] t (0, 0))) : W.cell? ⟨b, 0, none⟩ = some v := by
  simp [World.cell?, h]
end
set_option maxHeartbeats 8000000 in
set_option maxRecDepth 100000 in
theorem fi_65 (n : Fin 16) (w : World) : Calls Tryd.prog 65 #[.int .i64 ((n.1 : Nat) : Int)] w fun e w' => e = .returned (.string (fmtK n.1)) ∧ w' = w := by
  match n with
  | ⟨0, _⟩ =>
    show Calls Tryd.prog 65 #[.int .i64 0] w _
    go_enter Tryd.func65, Tryd.ntmps65
    go_wp2
    go_ret
    exact ⟨by first | rfl | (simp [fmtK]; done) | (congr 1; done), rfl⟩
  | ⟨1, _⟩ =>
    show Calls Tryd.prog 65 #[.int .i64 1] w _
    go_enter Tryd.func65, Tryd.ntmps65
    go_wp2
    go_ret
    exact ⟨by first | rfl | (simp [fmtK]; done) | (congr 1; done), rfl⟩
  | ⟨2, _⟩ =>
    show Calls Tryd.prog 65 #[.int .i64 2] w _
    go_enter Tryd.func65, Tryd.ntmps65
    go_wp2
    go_ret
    exact ⟨by first | rfl | (simp [fmtK]; done) | (congr 1; done), rfl⟩
  | ⟨3, _⟩ =>
    show Calls Tryd.prog 65 #[.int .i64 3] w _
    go_enter Tryd.func65, Tryd.ntmps65
    go_wp2
    go_ret
    exact ⟨by first | rfl | (simp [fmtK]; done) | (congr 1; done), rfl⟩
  | ⟨4, _⟩ =>
    show Calls Tryd.prog 65 #[.int .i64 4] w _
    go_enter Tryd.func65, Tryd.ntmps65
    go_wp2
    go_ret
    exact ⟨by first | rfl | (simp [fmtK]; done) | (congr 1; done), rfl⟩
  | ⟨5, _⟩ =>
    show Calls Tryd.prog 65 #[.int .i64 5] w _
    go_enter Tryd.func65, Tryd.ntmps65
    go_wp2
    go_ret
    exact ⟨by first | rfl | (simp [fmtK]; done) | (congr 1; done), rfl⟩
  | ⟨6, _⟩ =>
    show Calls Tryd.prog 65 #[.int .i64 6] w _
    go_enter Tryd.func65, Tryd.ntmps65
    go_wp2
    go_ret
    exact ⟨by first | rfl | (simp [fmtK]; done) | (congr 1; done), rfl⟩
  | ⟨7, _⟩ =>
    show Calls Tryd.prog 65 #[.int .i64 7] w _
    go_enter Tryd.func65, Tryd.ntmps65
    go_wp2
    go_ret
    exact ⟨by first | rfl | (simp [fmtK]; done) | (congr 1; done), rfl⟩
  | ⟨8, _⟩ =>
    show Calls Tryd.prog 65 #[.int .i64 8] w _
    go_enter Tryd.func65, Tryd.ntmps65
    go_wp2
    go_ret
    exact ⟨by first | rfl | (simp [fmtK]; done) | (congr 1; done), rfl⟩
  | ⟨9, _⟩ =>
    show Calls Tryd.prog 65 #[.int .i64 9] w _
    go_enter Tryd.func65, Tryd.ntmps65
    go_wp2
    go_ret
    exact ⟨by first | rfl | (simp [fmtK]; done) | (congr 1; done), rfl⟩
  | ⟨10, _⟩ =>
    show Calls Tryd.prog 65 #[.int .i64 10] w _
    go_enter Tryd.func65, Tryd.ntmps65
    go_wp2
    go_ret
    exact ⟨by first | rfl | (simp [fmtK]; done) | (congr 1; done), rfl⟩
  | ⟨11, _⟩ =>
    show Calls Tryd.prog 65 #[.int .i64 11] w _
    go_enter Tryd.func65, Tryd.ntmps65
    go_wp2
    go_ret
    exact ⟨by first | rfl | (simp [fmtK]; done) | (congr 1; done), rfl⟩
  | ⟨12, _⟩ =>
    show Calls Tryd.prog 65 #[.int .i64 12] w _
    go_enter Tryd.func65, Tryd.ntmps65
    go_wp2
    go_ret
    exact ⟨by first | rfl | (simp [fmtK]; done) | (congr 1; done), rfl⟩
  | ⟨13, _⟩ =>
    show Calls Tryd.prog 65 #[.int .i64 13] w _
    go_enter Tryd.func65, Tryd.ntmps65
    go_wp2
    go_ret
    exact ⟨by first | rfl | (simp [fmtK]; done) | (congr 1; done), rfl⟩
  | ⟨14, _⟩ =>
    show Calls Tryd.prog 65 #[.int .i64 14] w _
    go_enter Tryd.func65, Tryd.ntmps65
    go_wp2
    go_ret
    exact ⟨by first | rfl | (simp [fmtK]; done) | (congr 1; done), rfl⟩
  | ⟨15, _⟩ =>
    show Calls Tryd.prog 65 #[.int .i64 15] w _
    go_enter Tryd.func65, Tryd.ntmps65
    go_wp2
    go_ret
    exact ⟨by first | rfl | (simp [fmtK]; done) | (congr 1; done), rfl⟩
  | ⟨m + 16, h⟩ => omega
theorem fi_57 (n : Fin 16) (w : World) : Calls Tryd.prog 57 #[.int .i64 ((n.1 : Nat) : Int), .int .i64 10] w fun e w' => e = .returned (.string (fmtK n.1)) ∧ w' = w := by
  have h1 : decide ((0 : Int) ≤ ((n.1 : Nat) : Int)) = true := decide_eq_true (by omega)
  have h2 : decide (((n.1 : Nat) : Int) < 100) = true := decide_eq_true (by omega)
  have h3 : (0 : Int) ≤ ((n.1 : Nat) : Int) := by omega
  have h4 : ((n.1 : Nat) : Int) < 100 := by omega
  go_enter Tryd.func57, Tryd.ntmps57
  go_wp2_with fail
  refine (fi_65 n _).mono ?_
  rintro e w' ⟨rfl, rfl⟩
  go_wp2
  go_ret
  exact ⟨rfl, rfl⟩
theorem fi_51 (n : Fin 16) (w : World) : Calls Tryd.prog 51 #[.int .i64 ((n.1 : Nat) : Int)] w fun e w' => e = .returned (.string (fmtK n.1)) ∧ w' = w := by
  go_enter Tryd.func51, Tryd.ntmps51
  go_wp2_with fail
  refine (fi_57 n _).mono ?_
  rintro e w' ⟨rfl, rfl⟩
  go_wp2
  go_ret
  exact ⟨rfl, rfl⟩
theorem fi_41 (n : Fin 16) (w : World) : Calls Tryd.prog 41 #[.int .i64 ((n.1 : Nat) : Int)] w fun e w' => e = .returned (.string (fmtK n.1)) ∧ w' = w := by
  go_enter Tryd.func41, Tryd.ntmps41
  go_wp2_with fail
  refine (fi_51 n _).mono ?_
  rintro e w' ⟨rfl, rfl⟩
  go_wp2
  go_ret
  exact ⟨rfl, rfl⟩
theorem fi_25 (n : Fin 16) (w : World) : Calls Tryd.prog 25 #[.int .i64 ((n.1 : Nat) : Int)] w fun e w' => e = .returned (.string (fmtK n.1)) ∧ w' = w := by
  go_enter Tryd.func25, Tryd.ntmps25
  go_wp2_with fail
  refine (fi_41 n _).mono ?_
  rintro e w' ⟨rfl, rfl⟩
  go_wp2
  go_ret
  exact ⟨rfl, rfl⟩
theorem bp_fmt (c : Int) (h0 : 0 ≤ c) (h1 : c < 16) (w : World) : Calls Tryd.prog 25 #[.int .i64 c] w fun e w' => e = .returned (.string (fmtK c.toNat)) ∧ w' = w := by
  have h := fi_25 ⟨c.toNat, by omega⟩ w
  rw [show (((⟨c.toNat, by omega⟩ : Fin 16).1 : Nat) : Int) = c from Int.toNat_of_nonneg h0] at h
  exact h
theorem bp_fsize (c : Int) : (fmtK c.toNat).size ≤ 2 := by
  unfold fmtK
  split
  · exact (by decide : (1 : Nat) ≤ 2)
  · exact (by decide : (2 : Nat) ≤ 2)
theorem bp_sizes (ch : UInt8) (g s t : ByteArray) (hg : g.size ≤ 2) (hs : s.size < 100000) (ht : t.size < 100000) : 1 + g.size ≤ 9223372036854775807 ∧ ((⟨#[ch]⟩ : ByteArray) ++ g).size + 1 ≤ 9223372036854775807 ∧ (((⟨#[ch]⟩ : ByteArray) ++ g) ++ (⟨#[40]⟩ : ByteArray)).size + s.size ≤ 9223372036854775807 ∧ ((((⟨#[ch]⟩ : ByteArray) ++ g) ++ (⟨#[40]⟩ : ByteArray)) ++ s).size + t.size ≤ 9223372036854775807 ∧ (((((⟨#[ch]⟩ : ByteArray) ++ g) ++ (⟨#[40]⟩ : ByteArray)) ++ s) ++ t).size + 1 ≤ 9223372036854775807 := by
  have h1 : (⟨#[ch]⟩ : ByteArray).size = 1 := rfl
  have h2 : (⟨#[40]⟩ : ByteArray).size = 1 := rfl
  simp only [ByteArray.size_append, h1, h2]
  omega
def bpF (bb bw bf : Nat) : Value := .func (.func 24) #[] #[.pointer (some ⟨bb, 0, none⟩), .pointer (some ⟨bw, 0, none⟩), .pointer (some ⟨bf, 0, none⟩)]
theorem bp_letter (i : Int) (h0 : 0 ≤ i) (h1 : i < 6) : (⟨#[97, 98, 99, 100, 101, 102]⟩ : ByteArray).extract i.toNat (i.toNat + 1) = wareK i.toNat := by
  obtain ⟨n, rfl⟩ : ∃ n : Nat, i = n := ⟨i.toNat, by omega⟩
  rw [Int.toNat_natCast]
  have : ∀ m : Fin 6, (⟨#[97, 98, 99, 100, 101, 102]⟩ : ByteArray).extract m.1 (m.1 + 1) = wareK m.1 := by decide
  exact this ⟨n, by omega⟩
set_option maxHeartbeats 8000000 in
set_option maxRecDepth 100000 in
theorem bps.calls (k : Nat) : ∀ (w0 : World) (bb bw bf : Nat) (xs : List Int) (A1 : Option Addr) (c1 : Nat) (l1 : List (List Int)) (_hr1 : Kd.C (Kd.slice 3 (Kd.int .i64)) w0 A1 l1.length l1) (_hc1 : l1.length ≤ c1) (W : World) (a b : Int) (r : ByteArray) (_hI : BpI w0 W bb bw bf xs (.slice A1 l1.length c1) (bpF bb bw bf)) (h : bps.plan k xs l1 a b = some r),
    Calls Tryd.prog 24 #[.int .i64 a, .int .i64 b, .pointer (some ⟨bb, 0, none⟩), .pointer (some ⟨bw, 0, none⟩), .pointer (some ⟨bf, 0, none⟩)] W fun e w' => e = .returned (.string r) ∧ Below W.heap.size W w' := by
  induction k using Nat.strongRecOn with
  | _ k ih =>
  intro w0 bb bw bf xs A1 c1 l1 hr1 hc1 W a b r hI h
  cases k with
  | zero => exact absurd h (by simp [bps.plan])
  | succ k =>
  simp only [bps.plan] at h
  have IH := Aside0.mk ih
  have HR := Aside0.mk hr1
  have HC := Aside0.mk hc1
  have HI := Aside0.mk hI
  clear ih hr1 hc1 hI
  by_cases c0 : (0 ≤ a ∧ a < 17) ∧ 0 ≤ b ∧ b < 17
  · rw [if_pos c0] at h
    obtain ⟨⟨d1, d2⟩, d3, d4⟩ := c0
    have hx1 := HI.out.cell (a.toNat * 17 + b.toNat) (by omega)
    obtain ⟨v, hv⟩ : ∃ v_, xs.getD (a.toNat * 17 + b.toNat) 0 = v_ := ⟨_, rfl⟩
    rw [hv] at h hx1
    have D1 := eq_true d1
    have D2 := eq_true d2
    have D3 := eq_true d3
    have D4 := eq_true d4
    have hxw := bp_cell HI.out.cw
    clear d1 d2 d3 d4 hv
    go_enter Tryd.func24, Tryd.ntmps24
    by_cases c1 : v = 0
    · rw [if_pos c1] at h
      have c1b : (v == 0) = true := beq_iff_eq.mpr c1
      obtain rfl := Option.some.inj h
      clear c1
      go_wp2
      go_ret
      exact ⟨rfl, Below.refl _ _⟩
    · rw [if_neg c1] at h
      have c1b : (v == 0) = false := beq_eq_false_iff_ne.mpr c1
      have H' := Aside0.mk h
      clear h c1
      go_wp2
      go_loopg [22] k (fun kq v22 w' => ∃ (i : Int), v22 = .int .i64 i ∧ Aside0 (bps.ware kq xs l1 a b v i = some r) ∧ Aside0 (kq ≤ k) ∧ Aside0 (Below W.heap.size W w'))
      case atStart => exact ⟨0, rfl, H', ⟨Nat.le_refl _⟩, ⟨Below.refl _ _⟩⟩
      case round =>
        clear H' hx1 c1b
        obtain ⟨i, rfl, HA, HK1, HB⟩ := hrel
        cases gk with
        | zero => exact absurd HA.out (by simp [bps.ware])
        | succ k1 =>
          have H := HA.out
          clear HA
          simp only [bps.ware] at H
          by_cases c2 : i < (l1.length : Int)
          · rw [if_pos c2] at H
            by_cases c3 : 0 ≤ i ∧ i < 6 ∧ (rd_L2 l1 i).length = 3
            · rw [if_pos c3] at H
              obtain ⟨c3a, c3c, c3b⟩ := c3
              have c2b : decide (i < (l1.length : Int)) = true := decide_eq_true c2
              obtain ⟨ad1, A5, c5, e5, hx5, _, hr5⟩ := at_L2 (Kd.C_below HR.out (HI.out.below HB.out).b) i c3a c2
              cases e5
              rw [c3b] at hx5 hr5
              obtain ⟨ad2, e6, hx6⟩ := Kd.at_int hr5 0 (by omega) (by omega)
              cases e6
              obtain ⟨ad3, e7, hx7⟩ := Kd.at_int hr5 1 (by omega) (by omega)
              cases e7
              obtain ⟨ad4, e8, hx8⟩ := Kd.at_int hr5 2 (by omega) (by omega)
              cases e8
              obtain ⟨q0, hq0⟩ : ∃ q_, rd (rd_L2 l1 i) 0 = q_ := ⟨_, rfl⟩
              obtain ⟨q1, hq1⟩ : ∃ q_, rd (rd_L2 l1 i) 1 = q_ := ⟨_, rfl⟩
              obtain ⟨q2, hq2⟩ : ∃ q_, rd (rd_L2 l1 i) 2 = q_ := ⟨_, rfl⟩
              rw [hq0] at H hx6
              rw [hq1] at H hx7
              rw [hq2] at H hx8
              (try rw [show ((0 : Int)).toNat = 0 from rfl] at hx6)
              (try rw [Addr.add_zero'] at hx6)
              (try simp only [show (1 : Int).toNat = 1 from rfl, Nat.reduceMul, Nat.reduceEqDiff, Go.Addr.add, ↓reduceIte] at hx7)
              (try simp only [show (2 : Int).toNat = 2 from rfl, Nat.reduceMul, Nat.reduceEqDiff, Go.Addr.add, ↓reduceIte] at hx8)
              have C2 := eq_true c2
              have C3a := eq_true c3a
              clear hq0 hq1 hq2 hr5
              by_cases c4 : q0 = a
              · rw [if_pos c4] at H
                have c4b : (q0 == a) = true := beq_iff_eq.mpr c4
                by_cases c6 : q1 = b
                · rw [if_pos c6] at H
                  have c6b : (q1 == b) = true := beq_iff_eq.mpr c6
                  by_cases c7 : q2 = v
                  · rw [if_pos c7] at H
                    have c7b : (q2 == v) = true := beq_iff_eq.mpr c7
                    obtain rfl := Option.some.inj H
                    have hw1 : wrap64 (i + 1) = i + 1 := by unfold wrap64; omega
                    have hL := bp_letter i c3a c3c
                    have hS : (0 ≤ i ∧ i ≤ i + 1) ∧ i + 1 ≤ 6 := by omega
                    clear c4 c6 c7 c2 H
                    go_wp2
                    go_ret
                    refine ⟨?_, HB.out⟩
                    rw [show i.toNat + 1 = (i + 1).toNat by omega] at hL
                    exact congrArg (fun x => Ending.returned (Value.string x)) hL
                  · rw [if_neg c7] at H
                    have c7b : (q2 == v) = false := beq_eq_false_iff_ne.mpr c7
                    have H' := Aside0.mk H
                    clear H c4 c6 c7 c2 c3a c3c
                    go_wp2
                    go_roundg k1
                    case measure => have := HK1.out; omega
                    case rel => exact ⟨wrap64 (i + 1), by first | rfl | (simp; done), H', ⟨by have := HK1.out; omega⟩, HB⟩
                · rw [if_neg c6] at H
                  have c6b : (q1 == b) = false := beq_eq_false_iff_ne.mpr c6
                  have H' := Aside0.mk H
                  clear H c4 c6 c2 c3a c3c
                  go_wp2
                  go_roundg k1
                  case measure => have := HK1.out; omega
                  case rel => exact ⟨wrap64 (i + 1), by first | rfl | (simp; done), H', ⟨by have := HK1.out; omega⟩, HB⟩
              · rw [if_neg c4] at H
                have c4b : (q0 == a) = false := beq_eq_false_iff_ne.mpr c4
                have H' := Aside0.mk H
                clear H c4 c2 c3a c3c
                go_wp2
                go_roundg k1
                case measure => have := HK1.out; omega
                case rel => exact ⟨wrap64 (i + 1), by first | rfl | (simp; done), H', ⟨by have := HK1.out; omega⟩, HB⟩
            · rw [if_neg c3] at H
              exact absurd H (by simp)
          · rw [if_neg c2] at H
            have c2b : decide (i < (l1.length : Int)) = false := decide_eq_false c2
            have H' := Aside0.mk H
            clear H c2
            go_wp2
            go_loopg [11] k1 (fun kq v11 w' => ∃ (c : Int), v11 = .int .i64 c ∧ Aside0 (bps.cv kq xs l1 a b v c = some r) ∧ Aside0 (kq ≤ k1) ∧ Aside0 (Below W.heap.size W w'))
            case atStart => exact ⟨1, rfl, H', ⟨Nat.le_refl _⟩, HB⟩
            case round =>
              clear H' HB c2b
              obtain ⟨c, rfl, HA, HK2, HB⟩ := hrel
              cases gk with
              | zero => exact absurd HA.out (by simp [bps.cv])
              | succ k2 =>
                have H := HA.out
                clear HA
                simp only [bps.cv] at H
                have HI2 := Aside0.mk (HI.out.below HB.out)
                by_cases c4 : c < a
                · rw [if_pos c4] at H
                  by_cases c5 : (0 ≤ c ∧ a < 17) ∧ (0 ≤ b ∧ b < 17) ∧ 0 ≤ wrap64 (a - c) ∧ wrap64 (a - c) < 17
                  · rw [if_pos c5] at H
                    obtain ⟨⟨d1, d2⟩, ⟨d3, d4⟩, d5, d6⟩ := c5
                    have c4b : decide (c < a) = true := decide_eq_true c4
                    have hx2 := HI2.out.cell (c.toNat * 17 + b.toNat) (by omega)
                    have hx3 := HI2.out.cell ((wrap64 (a - c)).toNat * 17 + b.toNat) (by omega)
                    obtain ⟨u2, hu2⟩ : ∃ u_, xs.getD (c.toNat * 17 + b.toNat) 0 = u_ := ⟨_, rfl⟩
                    obtain ⟨u3, hu3⟩ : ∃ u_, xs.getD ((wrap64 (a - c)).toNat * 17 + b.toNat) 0 = u_ := ⟨_, rfl⟩
                    rw [hu2] at hx2
                    rw [hu3] at hx3
                    rw [hu2, hu3] at H
                    have D6 := eq_true (show c < 17 by omega)
                    have D7 := eq_true d1
                    have D8 := eq_true d5
                    have D9 := eq_true d6
                    have HFM := Aside0.mk (bp_fmt c d1 (by omega))
                    clear d1 d2 d3 d4 d5 d6 hu2 hu3 c4
                    by_cases c6 : wrap64 (u2 + u3) = v
                    · rw [if_pos c6] at H
                      have c6b : (wrap64 (u2 + u3) == v) = true := beq_iff_eq.mpr c6
                      obtain ⟨s, hs, H⟩ := Option.bind_eq_some_iff.mp H
                      obtain ⟨t, ht, H⟩ := Option.bind_eq_some_iff.mp H
                      by_cases c7 : s.size < 100000 ∧ t.size < 100000
                      · rw [if_pos c7] at H
                        obtain rfl := Option.some.inj H
                        obtain ⟨z1, z2⟩ := c7
                        have hz := bp_fsize c
                        have HS := Aside0.mk hs
                        have HT := Aside0.mk ht
                        clear H c6 hs ht
                        go_upto_region 13 with (fail)
                        go_big_region
                        go_upto_region 14 with (fail)
                        obtain ⟨d, hd⟩ : ∃ d_, wrap64 (a - c) = d_ := ⟨_, rfl⟩
                        rw [hd] at HT
                        have hd2 : IntKind.i64.wrap (a - c) = d := (i64_w _).trans hd
                        have HB4 := Aside0.mk (show Below W.heap.size W wr.drew from below_step HB.out (below_drew (Below.refl _ _)))
                        have HI4 := Aside0.mk (show BpI w0 wr.drew bb bw bf xs (.slice A1 l1.length c1) (bpF bb bw bf) from HI2.out.below (below_drew (Below.refl _ _)))
                        clear hx2 hx3 hxw HB HI2
                        generalize wr.drew = wq at HB4 HI4 ⊢
                        have HI5 := Aside0.mk (show BpI w0 wq.drew bb bw bf xs (.slice A1 l1.length c1) (bpF bb bw bf) from HI4.out.below (below_drew (Below.refl _ _)))
                        have hxf := bp_cell HI4.out.cf
                        unfold bpF at hxf
                        obtain ⟨g, hg⟩ : ∃ g_, fmtK c.toNat = g_ := ⟨_, rfl⟩
                        rw [hg] at hz HFM
                        have HG := Aside0.mk hg
                        obtain ⟨s1, s2, s3, s4, s5⟩ := bp_sizes 118 g s t hz z1 z2
                        have S1 := eq_true s1
                        have S2 := eq_true s2
                        have S3 := eq_true s3
                        have S4 := eq_true s4
                        have S5 := eq_true s5
                        have T1 : (9223372036854775807 < 1 + g.size) = False := eq_false (Nat.not_lt.2 s1)
                        have T2 : (9223372036854775807 < ((⟨#[118]⟩ : ByteArray) ++ g).size + 1) = False := eq_false (Nat.not_lt.2 s2)
                        have T3 : (9223372036854775807 < (((⟨#[118]⟩ : ByteArray) ++ g) ++ (⟨#[40]⟩ : ByteArray)).size + s.size) = False := eq_false (Nat.not_lt.2 s3)
                        have T4 : (9223372036854775807 < ((((⟨#[118]⟩ : ByteArray) ++ g) ++ (⟨#[40]⟩ : ByteArray)) ++ s).size + t.size) = False := eq_false (Nat.not_lt.2 s4)
                        have T5 : (9223372036854775807 < (((((⟨#[118]⟩ : ByteArray) ++ g) ++ (⟨#[40]⟩ : ByteArray)) ++ s) ++ t).size + 1) = False := eq_false (Nat.not_lt.2 s5)
                        have V1 : decide (1 + g.size ≤ 9223372036854775807) = true := decide_eq_true s1
                        have V2 : decide (((⟨#[118]⟩ : ByteArray) ++ g).size + 1 ≤ 9223372036854775807) = true := decide_eq_true s2
                        have V3 : decide ((((⟨#[118]⟩ : ByteArray) ++ g) ++ (⟨#[40]⟩ : ByteArray)).size + s.size ≤ 9223372036854775807) = true := decide_eq_true s3
                        have V4 : decide (((((⟨#[118]⟩ : ByteArray) ++ g) ++ (⟨#[40]⟩ : ByteArray)) ++ s).size + t.size ≤ 9223372036854775807) = true := decide_eq_true s4
                        have V5 : decide ((((((⟨#[118]⟩ : ByteArray) ++ g) ++ (⟨#[40]⟩ : ByteArray)) ++ s) ++ t).size + 1 ≤ 9223372036854775807) = true := decide_eq_true s5
                        have U1 : (1 + g.size + 1 ≤ 9223372036854775807) = True := eq_true (by omega)
                        have X1 : (9223372036854775807 < 1 + g.size + 1) = False := eq_false (by omega)
                        have U2 : (1 + g.size + 1 + s.size ≤ 9223372036854775807) = True := eq_true (by omega)
                        have X2 : (9223372036854775807 < 1 + g.size + 1 + s.size) = False := eq_false (by omega)
                        have U3 : (1 + g.size + 1 + s.size + t.size ≤ 9223372036854775807) = True := eq_true (by omega)
                        have X3 : (9223372036854775807 < 1 + g.size + 1 + s.size + t.size) = False := eq_false (by omega)
                        have U4 : (1 + g.size + 1 + s.size + t.size + 1 ≤ 9223372036854775807) = True := eq_true (by omega)
                        have X4 : (9223372036854775807 < 1 + g.size + 1 + s.size + t.size + 1) = False := eq_false (by omega)
                        clear hg s1 s2 s3 s4 s5 z1 z2 hz
                        go_region_held3 (fun w' => w'.cell? ⟨bf, 0, none⟩ = some (.func (.func 24) #[] #[.pointer (some ⟨bb, 0, none⟩), .pointer (some ⟨bw, 0, none⟩), .pointer (some ⟨bf, 0, none⟩)])) (first | exact hxf | exact hxf1 | exact hxf2) (first | ((with_reducible refine (IH.out k2 (by have := HK1.out; have := HK2.out; omega) w0 bb bw bf xs A1 c1 l1 HR.out HC.out wq.drew c b s HI5.out HS.out).mono ?_); rintro e w1 ⟨rfl, hb⟩; have HI6 := Aside0.mk (HI5.out.below hb); have HB6 := Aside0.mk (below_step (below_step HB4.out (below_drew (Below.refl _ _))) hb); clear hb; have hxf1 := bp_cell HI6.out.cf; unfold bpF at hxf1) | ((with_reducible refine (IH.out k2 (by have := HK1.out; have := HK2.out; omega) w0 bb bw bf xs A1 c1 l1 HR.out HC.out w1 d b t HI6.out HT.out).mono ?_); rintro e w2 ⟨rfl, hb⟩; have HI7 := Aside0.mk (HI6.out.below hb); have HB7 := Aside0.mk (below_step HB6.out hb); clear hb; have hxf2 := bp_cell HI7.out.cf; unfold bpF at hxf2) | (go_at_call 25; refine (HFM.out _).mono ?_; rintro e w1 ⟨rfl, rfl⟩))
                        go_wp2
                        go_ret
                        exact ⟨by rw [← HG.out]; rfl, HB7.out⟩
                      · rw [if_neg c7] at H
                        exact absurd H (by simp)
                    · rw [if_neg c6] at H
                      have c6b : (wrap64 (u2 + u3) == v) = false := beq_eq_false_iff_ne.mpr c6
                      have H' := Aside0.mk H
                      clear H c6
                      go_upto_region 13 with (fail)
                      go_big_region
                      go_wp2
                      go_roundg k2
                      case measure => have := HK2.out; omega
                      case rel => exact ⟨wrap64 (c + 1), by first | rfl | (simp; done), H', ⟨by have := HK2.out; omega⟩, ⟨by have e := HB.out; exact below_step e (below_drew (Below.refl _ _))⟩⟩
                  · rw [if_neg c5] at H
                    exact absurd H (by simp)
                · rw [if_neg c4] at H
                  have c4b : decide (c < a) = false := decide_eq_false c4
                  have H' := Aside0.mk H
                  clear H c4
                  go_wp2
                  go_loopg [12] k2 (fun kq v12 w' => ∃ (c : Int), v12 = .int .i64 c ∧ Aside0 (bps.ch kq xs l1 a b v c = some r) ∧ Aside0 (kq ≤ k2) ∧ Aside0 (Below W.heap.size W w'))
                  case atStart => exact ⟨1, rfl, H', ⟨Nat.le_refl _⟩, HB⟩
                  case round =>
                    clear H' HB HI2 c4b
                    obtain ⟨c, rfl, HA, HK3, HB⟩ := hrel
                    cases gk with
                    | zero => exact absurd HA.out (by simp [bps.ch])
                    | succ k3 =>
                      have H := HA.out
                      clear HA
                      simp only [bps.ch] at H
                      have HI2 := Aside0.mk (HI.out.below HB.out)
                      by_cases c4 : c < b
                      · rw [if_pos c4] at H
                        by_cases c5 : (0 ≤ c ∧ b < 17) ∧ (0 ≤ a ∧ a < 17) ∧ 0 ≤ wrap64 (b - c) ∧ wrap64 (b - c) < 17
                        · rw [if_pos c5] at H
                          obtain ⟨⟨d1, d2⟩, ⟨d3, d4⟩, d5, d6⟩ := c5
                          have c4b : decide (c < b) = true := decide_eq_true c4
                          have hx2 := HI2.out.cell (a.toNat * 17 + c.toNat) (by omega)
                          have hx3 := HI2.out.cell (a.toNat * 17 + (wrap64 (b - c)).toNat) (by omega)
                          obtain ⟨u2, hu2⟩ : ∃ u_, xs.getD (a.toNat * 17 + c.toNat) 0 = u_ := ⟨_, rfl⟩
                          obtain ⟨u3, hu3⟩ : ∃ u_, xs.getD (a.toNat * 17 + (wrap64 (b - c)).toNat) 0 = u_ := ⟨_, rfl⟩
                          rw [hu2] at hx2
                          rw [hu3] at hx3
                          rw [hu2, hu3] at H
                          have D6 := eq_true (show c < 17 by omega)
                          have D7 := eq_true d1
                          have D8 := eq_true d5
                          have D9 := eq_true d6
                          have HFM := Aside0.mk (bp_fmt c d1 (by omega))
                          clear d1 d2 d3 d4 d5 d6 hu2 hu3 c4
                          by_cases c6 : wrap64 (u2 + u3) = v
                          · rw [if_pos c6] at H
                            have c6b : (wrap64 (u2 + u3) == v) = true := beq_iff_eq.mpr c6
                            obtain ⟨s, hs, H⟩ := Option.bind_eq_some_iff.mp H
                            obtain ⟨t, ht, H⟩ := Option.bind_eq_some_iff.mp H
                            by_cases c7 : s.size < 100000 ∧ t.size < 100000
                            · rw [if_pos c7] at H
                              obtain rfl := Option.some.inj H
                              obtain ⟨z1, z2⟩ := c7
                              have hz := bp_fsize c
                              have HS := Aside0.mk hs
                              have HT := Aside0.mk ht
                              clear H c6 hs ht
                              go_upto_region 18 with (fail)
                              go_big_region
                              go_upto_region 19 with (fail)
                              obtain ⟨d, hd⟩ : ∃ d_, wrap64 (b - c) = d_ := ⟨_, rfl⟩
                              rw [hd] at HT
                              have hd2 : IntKind.i64.wrap (b - c) = d := (i64_w _).trans hd
                              have HB4 := Aside0.mk (show Below W.heap.size W wr.drew from below_step HB.out (below_drew (Below.refl _ _)))
                              have HI4 := Aside0.mk (show BpI w0 wr.drew bb bw bf xs (.slice A1 l1.length c1) (bpF bb bw bf) from HI2.out.below (below_drew (Below.refl _ _)))
                              clear hx2 hx3 hxw HB HI2
                              generalize wr.drew = wq at HB4 HI4 ⊢
                              have HI5 := Aside0.mk (show BpI w0 wq.drew bb bw bf xs (.slice A1 l1.length c1) (bpF bb bw bf) from HI4.out.below (below_drew (Below.refl _ _)))
                              have hxf := bp_cell HI4.out.cf
                              unfold bpF at hxf
                              obtain ⟨g, hg⟩ : ∃ g_, fmtK c.toNat = g_ := ⟨_, rfl⟩
                              rw [hg] at hz HFM
                              have HG := Aside0.mk hg
                              obtain ⟨s1, s2, s3, s4, s5⟩ := bp_sizes 104 g s t hz z1 z2
                              have S1 := eq_true s1
                              have S2 := eq_true s2
                              have S3 := eq_true s3
                              have S4 := eq_true s4
                              have S5 := eq_true s5
                              have T1 : (9223372036854775807 < 1 + g.size) = False := eq_false (Nat.not_lt.2 s1)
                              have T2 : (9223372036854775807 < ((⟨#[104]⟩ : ByteArray) ++ g).size + 1) = False := eq_false (Nat.not_lt.2 s2)
                              have T3 : (9223372036854775807 < (((⟨#[104]⟩ : ByteArray) ++ g) ++ (⟨#[40]⟩ : ByteArray)).size + s.size) = False := eq_false (Nat.not_lt.2 s3)
                              have T4 : (9223372036854775807 < ((((⟨#[104]⟩ : ByteArray) ++ g) ++ (⟨#[40]⟩ : ByteArray)) ++ s).size + t.size) = False := eq_false (Nat.not_lt.2 s4)
                              have T5 : (9223372036854775807 < (((((⟨#[104]⟩ : ByteArray) ++ g) ++ (⟨#[40]⟩ : ByteArray)) ++ s) ++ t).size + 1) = False := eq_false (Nat.not_lt.2 s5)
                              have V1 : decide (1 + g.size ≤ 9223372036854775807) = true := decide_eq_true s1
                              have V2 : decide (((⟨#[104]⟩ : ByteArray) ++ g).size + 1 ≤ 9223372036854775807) = true := decide_eq_true s2
                              have V3 : decide ((((⟨#[104]⟩ : ByteArray) ++ g) ++ (⟨#[40]⟩ : ByteArray)).size + s.size ≤ 9223372036854775807) = true := decide_eq_true s3
                              have V4 : decide (((((⟨#[104]⟩ : ByteArray) ++ g) ++ (⟨#[40]⟩ : ByteArray)) ++ s).size + t.size ≤ 9223372036854775807) = true := decide_eq_true s4
                              have V5 : decide ((((((⟨#[104]⟩ : ByteArray) ++ g) ++ (⟨#[40]⟩ : ByteArray)) ++ s) ++ t).size + 1 ≤ 9223372036854775807) = true := decide_eq_true s5
                              have U1 : (1 + g.size + 1 ≤ 9223372036854775807) = True := eq_true (by omega)
                              have X1 : (9223372036854775807 < 1 + g.size + 1) = False := eq_false (by omega)
                              have U2 : (1 + g.size + 1 + s.size ≤ 9223372036854775807) = True := eq_true (by omega)
                              have X2 : (9223372036854775807 < 1 + g.size + 1 + s.size) = False := eq_false (by omega)
                              have U3 : (1 + g.size + 1 + s.size + t.size ≤ 9223372036854775807) = True := eq_true (by omega)
                              have X3 : (9223372036854775807 < 1 + g.size + 1 + s.size + t.size) = False := eq_false (by omega)
                              have U4 : (1 + g.size + 1 + s.size + t.size + 1 ≤ 9223372036854775807) = True := eq_true (by omega)
                              have X4 : (9223372036854775807 < 1 + g.size + 1 + s.size + t.size + 1) = False := eq_false (by omega)
                              clear hg s1 s2 s3 s4 s5 z1 z2 hz
                              go_region_held3 (fun w' => w'.cell? ⟨bf, 0, none⟩ = some (.func (.func 24) #[] #[.pointer (some ⟨bb, 0, none⟩), .pointer (some ⟨bw, 0, none⟩), .pointer (some ⟨bf, 0, none⟩)])) (first | exact hxf | exact hxf1 | exact hxf2) (first | ((with_reducible refine (IH.out k3 (by have := HK1.out; have := HK2.out; have := HK3.out; omega) w0 bb bw bf xs A1 c1 l1 HR.out HC.out wq.drew a c s HI5.out HS.out).mono ?_); rintro e w1 ⟨rfl, hb⟩; have HI6 := Aside0.mk (HI5.out.below hb); have HB6 := Aside0.mk (below_step (below_step HB4.out (below_drew (Below.refl _ _))) hb); clear hb; have hxf1 := bp_cell HI6.out.cf; unfold bpF at hxf1) | ((with_reducible refine (IH.out k3 (by have := HK1.out; have := HK2.out; have := HK3.out; omega) w0 bb bw bf xs A1 c1 l1 HR.out HC.out w1 a d t HI6.out HT.out).mono ?_); rintro e w2 ⟨rfl, hb⟩; have HI7 := Aside0.mk (HI6.out.below hb); have HB7 := Aside0.mk (below_step HB6.out hb); clear hb; have hxf2 := bp_cell HI7.out.cf; unfold bpF at hxf2) | (go_at_call 25; refine (HFM.out _).mono ?_; rintro e w1 ⟨rfl, rfl⟩))
                              go_wp2
                              go_ret
                              exact ⟨by rw [← HG.out]; rfl, HB7.out⟩
                            · rw [if_neg c7] at H
                              exact absurd H (by simp)
                          · rw [if_neg c6] at H
                            have c6b : (wrap64 (u2 + u3) == v) = false := beq_eq_false_iff_ne.mpr c6
                            have H' := Aside0.mk H
                            clear H c6
                            go_upto_region 18 with (fail)
                            go_big_region
                            go_wp2
                            go_roundg k3
                            case measure => have := HK3.out; omega
                            case rel => exact ⟨wrap64 (c + 1), by first | rfl | (simp; done), H', ⟨by have := HK3.out; omega⟩, ⟨by have e := HB.out; exact below_step e (below_drew (Below.refl _ _))⟩⟩
                        · rw [if_neg c5] at H
                          exact absurd H (by simp)
                      · rw [if_neg c4] at H
                        have c4b : decide (c < b) = false := decide_eq_false c4
                        obtain rfl := Option.some.inj H
                        clear H c4
                        go_wp2
                        go_ret
                        exact ⟨rfl, HB.out⟩
  · rw [if_neg c0] at h
    exact absurd h (by simp)
def impl_BestPlan.f (k : Nat) (a0 a1 : Int) (l2 : List (List Int)) : Option ByteArray := (impl_isPlate.f a0 a1 l2).bind fun t => if t = true then ((impl_bestValues.f k a0 a1 l2).bind fun xs => bps.plan k xs l2 a0 a1) else some ⟨#[]⟩
theorem impl_BestPlan.mono : ∀ a0 a1 a2 k, LeO (impl_BestPlan.f k a0 a1 a2) (impl_BestPlan.f (k + 1) a0 a1 a2) := by
  intro a0 a1 a2 k
  unfold impl_BestPlan.f
  exact LeO.bind (LeO.refl _) (fun _ => LeO.ite (LeO.bind (impl_bestValues.mono _ _ _ _) (fun _ => (bps.mono_l _ _ k).1 _ _)) (LeO.refl _))
theorem bp_new (W : World) (o : Obj) : (W.alloc o).heap[W.heap.size]? = some o := by
  show (W.heap.push _)[W.heap.size]? = _
  simp
theorem bp_size (W : World) (o : Obj) : (W.alloc o).heap.size = W.heap.size + 1 := by
  show (W.heap.push _).size = _
  simp
theorem bp_old {W : World} {b : Nat} {o : Obj} (o' : Obj) (h : W.heap[b]? = some o) : (W.alloc o').heap[b]? = some o :=
  ((below_alloc (Below.refl W.heap.size W) o').block b (bp_lt h)).trans h
theorem bp_newS (W : World) (o : Obj) {n : Nat} (h : W.heap.size = n) : (W.alloc o).heap[n]? = some o := h ▸ bp_new W o
theorem bp_setRow {base b : Nat} {w W : World} (hb : base ≤ b) (h : Below base w W) (cs : Array Value) : Below base w (W.setRow b cs) :=
  ⟨h.os, h.tape, h.output, by
    have := h.size
    show _ ≤ (Array.modify _ _ _).size
    rw [Array.size_modify]
    exact this, fun k hk => (setRow_other W b k cs (by omega)).trans (h.block k hk)⟩
set_option maxHeartbeats 8000000 in
set_option maxRecDepth 100000 in
theorem impl_BestPlan.calls (k : Nat) (a0 : Int) (a1 : Int) (A2 : Option Addr) (c2 : Nat) (l2 : List (List Int)) (r : ByteArray) (w : World) (hr2 : Kd.C (Kd.slice 3 (Kd.int .i64)) w A2 l2.length l2) (hc2 : l2.length ≤ c2) (h : impl_BestPlan.f k a0 a1 l2 = some r) :
    Calls Tryd.prog 8 #[.int .i64 a0, .int .i64 a1, .slice A2 l2.length c2] w fun e w' => e = .returned (.string r) ∧ Below w.heap.size w w' := by
  obtain ⟨t, ht, h⟩ := Option.bind_eq_some_iff.mp h
  have HR := Aside0.mk hr2
  have HC := Aside0.mk hc2
  have HT := Aside0.mk ht
  have H' := Aside0.mk h
  clear hr2 hc2 ht h
  go_enter Tryd.func8, Tryd.ntmps8
  go_wp2_with fail
  have HB0 := Aside0.mk (show Below w.heap.size w (w.alloc (.cells #[.slice A2 l2.length c2] 23)) from below_alloc (Below.refl _ _) _)
  have hw0 := bp_new w (.cells #[.slice A2 l2.length c2] 23)
  have HW0 := Aside0.mk hw0
  refine (impl_isPlate.calls a0 a1 A2 c2 l2 t _ (Kd.C_below HR.out HB0.out) HC.out HT.out).mono ?_
  rintro e w2 ⟨rfl, hb⟩
  have HB := Aside0.mk (below_step HB0.out hb)
  have HW := Aside0.mk ((hb.block _ (bp_lt HW0.out)).trans HW0.out)
  clear hb hw0 HB0 HW0
  cases t with
  | false =>
    have H := H'.out
    simp only [Bool.false_eq_true, if_false, Option.some.injEq] at H
    subst H
    go_wp2
    go_ret
    exact ⟨rfl, HB.out⟩
  | true =>
    have H := H'.out
    simp only [if_true] at H
    obtain ⟨xs, hxs, H⟩ := Option.bind_eq_some_iff.mp H
    have HX := Aside0.mk hxs
    have HE := Aside0.mk H
    clear hxs H H'
    have hxw := bp_cell HW.out
    go_wp2_with fail
    refine (impl_bestValues.calls k a0 a1 A2 c2 l2 xs w2 (Kd.C_below HR.out HB.out) HC.out HX.out).mono ?_
    rintro e w3 ⟨rfl, hlen, hb3⟩
    have HB3 := Aside0.mk (below_step HB.out hb3)
    have HW3 := Aside0.mk ((hb3.block _ (bp_lt HW.out)).trans HW.out)
    have HL := Aside0.mk hlen
    clear hb3 hlen hxw
    have hsz : (Tryd.prog.info? 44).map (·.size) = some (xs.map (Value.int .i64)).toArray.size := by
      rw [bv_size, bv_zero]
      simp [HL.out]
    have hsz2 : (Tryd.zeroCells44).size = (xs.map (Value.int .i64)).toArray.size := by
      rw [bv_zero]
      simp [HL.out]
    have hone : (xs.map (Value.int .i64)).toArray.all (·.oneCell') = true := by simp [Value.oneCell']
    have hz := bp_new w3 (.cells Tryd.zeroCells44 44)
    have hmf : ∀ (fn : Fn) (first cap : Array Value) (w : World), (Instr.makeFunc fn first cap).run Tryd.prog w = .ok (.func fn first cap) w := fun _ _ _ _ => rfl
    go_wp2_with (first | (refine wpList_plain (by rfl) fun K_ hK_ => ?_; refine wp_store_row 44 (.tmp 7) (.tmp 17) rfl w3.heap.size (xs.map (Value.int .i64)).toArray rfl rfl 44 _ hz hsz hsz2 hone ?_; refine hK_ _ _ ?_) | fail)
    have hr := setRow_heap (w3.alloc (.cells Tryd.zeroCells44 44)) w3.heap.size _ (xs.map (Value.int .i64)).toArray _ _ hz
    have hs : ((w3.alloc (.cells Tryd.zeroCells44 44)).setRow w3.heap.size (xs.map (Value.int .i64)).toArray).heap.size = w3.heap.size + 1 := by
      show (Array.modify _ _ _).size = _
      rw [Array.size_modify]
      exact bp_size _ _
    have hlt := bp_lt HW3.out
    have HI := Aside0.mk (BpI.mk (w0 := w) (vw := .slice A2 l2.length c2) (vf := bpF w3.heap.size w.heap.size (w3.heap.size + 1)) (xs := xs)
      (bp_old (.cells #[bpF w3.heap.size w.heap.size (w3.heap.size + 1)] 46) hr)
      (bp_old _ ((setRow_other (w3.alloc (.cells Tryd.zeroCells44 44)) w3.heap.size w.heap.size (xs.map (Value.int .i64)).toArray (by omega)).trans (bp_old _ HW3.out)))
      (bp_newS _ _ hs)
      (below_alloc (bp_setRow HB3.out.size (below_alloc HB3.out _) _) _) HL.out)
    refine (bps.calls k w w3.heap.size w.heap.size (w3.heap.size + 1) xs A2 c2 l2 HR.out HC.out _ a0 a1 r HI.out HE.out).mono ?_
    rintro e w6 ⟨rfl, hb6⟩
    have HB6 := Aside0.mk (below_step HI.out.b hb6)
    clear hb6 HI hs hr hz hsz hsz2 hone
    go_wp2
    go_ret
    exact ⟨rfl, HB6.out⟩

end Go.Proofs.YthjiccclpalobaaDoor.XFnEdgecuts
