/- What functions of the program compute, as plain Lean functions, and that Go's calls come to just that: written by wip/tools/xprint.py for the law FnNests. -/
import Derived.Test.YtpnngdljfnhnfaaXFnNestsx0
import Derived.Test.YtpnngdljfnhnfaaXFnNestsx4
import Derived.Test.YtpnngdljfnhnfaaXFnNestsx7
import Derived.Test.YtpnngdljfnhnfaaXFnNestsx8
namespace Go.Proofs.Ytpnngdljfnhnfaa.XFnNests
open Go.RowKit Go.Proofs.YtpnngdljfnhnfaaW.PrintWords Go.Proofs.YtpnngdljfnhnfaaW.PrintLast Go.Proofs.YtpnngdljfnhnfaaW.PrintMore
attribute [local go_sem] max2_int min2_int max_two min_two max_three min_three max_four min_four   -- for this text's walks alone
set_option linter.unusedVariables false
set_option linter.unusedSimpArgs false

/-! ### impl_NestAll: function 16 -/
def lays_Nm215_ren : Go.Shelf.Ren := ⟨fun | 15 => 76 | n => n, fun | 22 => 23 | 3 => 3 | 4 => 4 | n => n, fun | n => n⟩
theorem lays_Nm215 : Go.Proofs.Lays2.n15 Try.prog lays_Nm215_ren := {
  mixed := by kernel_rfl,
  f15 := Try.func76.trans (congrArg some (by kernel_rfl)),
  t3 := Try.underlying3,
  a3 := Try.isAgg3,
  z3 := Try.sizeOf3,
  v3 := Try.zeroValue3,
  t4 := Try.underlying4,
  a4 := Try.isAgg4,
  z4 := Try.sizeOf4,
  v4 := Try.zeroValue4,
  t22 := Try.underlying23,
  a22 := Try.isAgg23,
  z22 := Try.sizeOf23,
  v22 := Try.zeroValue23,
  i3 := by kernel_rfl }
/-! eachNest: nests laid shape after shape by a closure that calls itself through its variable; each whole nest is handed to a visitor -/
theorem en_clone {w w0 : World} {ok : Nat → Prop} {v : Value} {l : List Int} (ho0 : Kd.R (Kd.int .i64) 3 w w0.heap.size ok v l) (hl : l.length < 1000) :
    Calls Try.prog 76 #[v] w fun e w' => ∃ v0_ : Value, e = .returned v0_ ∧ Kd.R (Kd.int .i64) 3 w' w.heap.size (fun _ => True) v0_ l ∧ Below w.heap.size w w' := by
  have ho := Kd.own_of_R ho0
  rcases ho.2 with ⟨rfl, hn⟩ | ⟨g, cap, cur, rfl, hbase, hb, h1, h2, h3, h4⟩
  · obtain rfl := List.length_eq_zero_iff.mp hn
    refine (Any.slices_Clone_int_nil lays_Nm215 0 0 w).mono ?_
    rintro e w' ⟨rfl, rfl⟩
    exact ⟨_, rfl, Kd.R_nil _ _ _ _ _, Below.refl _ _⟩
  · rw [Nat.mul_one] at h4
    have hH := Go.holds_of_blockI hb h4
    refine (Any.slices_Clone_int lays_Nm215 g 0 l.length cap l w (Nat.le_refl _) (by omega) (fun j hj => ?_)).mono ?_
    · have := (hH j (by simpa using hj)).1
      rw [this]
      simp [List.getD_eq_getElem?_getD, hj]
    · rintro e w' ⟨v', rfl, hown, _, hbw⟩
      refine ⟨v', rfl, Kd.R_of_own ?_ (fun _ _ => trivial), hbw⟩
      rw [List.take_length] at hown
      exact hown
mutual
def en.lay {St : Type} (vis : List Int → St → Bool × St) : Nat → Int → Int → Bool → List Int → Int → List Int → St → Option (Bool × St)
  | 0, _, _, _, _, _, _, _ => none
  | k + 1, w, h, turn, ss, free, nest, s => if nest.length < 100 then (if nest.length = ss.length then some (vis nest s) else (if nest.length < ss.length then ((impl_layings.f k w h free (rd ss (nest.length : Int)) turn).bind fun L => en.lp vis k w h turn ss free nest L 0 s) else none)) else none
def en.lp {St : Type} (vis : List Int → St → Bool × St) : Nat → Int → Int → Bool → List Int → Int → List Int → List Int → Int → St → Option (Bool × St)
  | 0, _, _, _, _, _, _, _, _, _ => none
  | k + 1, w, h, turn, ss, free, nest, L, i, s => if i < (L.length : Int) then (if 0 ≤ i then ((en.lay vis k w h turn ss (Go.bits .andNot .i64 free (rd L i)) (nest ++ [rd L i]) s).bind fun t => if t.1 = true then en.lp vis k w h turn ss free nest L (wrap64 (i + 1)) t.2 else some (false, t.2)) else none) else some (true, s)
end
theorem en.mono_l {St : Type} (vis : List Int → St → Bool × St) : ∀ k, (∀ y0 y1 y2 y3 y4 y5 y6, LeO (en.lay vis k y0 y1 y2 y3 y4 y5 y6) (en.lay vis (k + 1) y0 y1 y2 y3 y4 y5 y6)) ∧ (∀ y0 y1 y2 y3 y4 y5 y6 y7 y8, LeO (en.lp vis k y0 y1 y2 y3 y4 y5 y6 y7 y8) (en.lp vis (k + 1) y0 y1 y2 y3 y4 y5 y6 y7 y8))
  | 0 => ⟨fun _ _ _ _ _ _ _ r h => by simp [en.lay] at h, fun _ _ _ _ _ _ _ _ _ r h => by simp [en.lp] at h⟩
  | k + 1 => by
    obtain ⟨ih0, ih1⟩ := en.mono_l vis k
    refine ⟨?_, ?_⟩
    · intro y0 y1 y2 y3 y4 y5 y6
      unfold en.lay
      repeat' first
        | (with_reducible exact ih0 _ _ _ _ _ _ _)
        | (with_reducible exact ih1 _ _ _ _ _ _ _ _ _)
        | (with_reducible exact impl_layings.mono _ _ _ _ _ _)
        | (with_reducible exact LeO.refl _)
        | (with_reducible exact LeO.none _)
        | (with_reducible refine LeO.ite ?_ ?_)
        | (with_reducible refine LeO.bind ?_ (fun _ => ?_))
    · intro y0 y1 y2 y3 y4 y5 y6 y7 y8
      unfold en.lp
      repeat' first
        | (with_reducible exact ih0 _ _ _ _ _ _ _)
        | (with_reducible exact ih1 _ _ _ _ _ _ _ _ _)
        | (with_reducible exact LeO.refl _)
        | (with_reducible exact LeO.none _)
        | (with_reducible refine LeO.ite ?_ ?_)
        | (with_reducible refine LeO.bind ?_ (fun _ => ?_))
/-- A visitor: what it keeps lies in blocks that are not ok to write. -/
structure EnV {St : Type} (w0 : World) (gv : Nat) (lbv : Array Value) (vis : List Int → St → Bool × St) (J : World → (Nat → Prop) → St → Prop) : Prop where
  step : ∀ {W W' : World} {ok : Nat → Prop} {s : St}, J W ok s → (∀ k, k < W.heap.size → ¬ ok k → W'.heap[k]? = W.heap[k]?) → J W' ok s
  fresh : ∀ {W : World} {ok : Nat → Prop} {s : St}, J W ok s → ∀ k, W.heap.size ≤ k → ok k
  enter : ∀ args w, (callFunc gv args).run Try.prog w = .ok (.enter gv args) w
  calls : ∀ {W W1 : World} {ok : Nat → Prop} {s : St} {vc : Value} {xs : List Int}, J W ok s → Below w0.heap.size w0 W → w0.heap.size ≤ W1.heap.size → W1.heap.size ≤ W.heap.size → Kd.R (Kd.int .i64) 3 W W1.heap.size (fun _ => True) vc xs → (∀ k, vc.ownBlock = some k → ok k) → Calls Try.prog gv (#[vc] ++ lbv) W fun e W' => e = .returned (.bool (vis xs s).1) ∧ Below w0.heap.size w0 W' ∧ W.heap.size ≤ W'.heap.size ∧ (∀ k, k < W.heap.size → ok k → W'.heap[k]? = W.heap[k]?) ∧ ∃ ok', J W' ok' (vis xs s).2 ∧ ∀ k, ok k → some k ≠ vc.ownBlock → ok' k
def enF (bn bs bv bw bh bt bl : Nat) : Value := .func (.func 75) #[] #[.pointer (some ⟨bn, 0, none⟩), .pointer (some ⟨bs, 0, none⟩), .pointer (some ⟨bv, 0, none⟩), .pointer (some ⟨bw, 0, none⟩), .pointer (some ⟨bh, 0, none⟩), .pointer (some ⟨bt, 0, none⟩), .pointer (some ⟨bl, 0, none⟩)]
/-- The variables of a search: boxes, the nest so far, what the visitor keeps. -/
structure EnI {St : Type} (J : World → (Nat → Prop) → St → Prop) (w0 W : World) (bn bs bv bw bh bt bl : Nat) (vs vv vl : Value) (w h : Int) (turn : Bool) (vn : Value) (ns : List Int) (ok : Nat → Prop) (s : St) : Prop where
  p : Kd.R (Kd.int .i64) 3 W w0.heap.size (fun k => (k ≠ bw ∧ k ≠ bh) ∧ ok k) vn ns
  cn : W.heap[bn]? = some (.cells #[vn] 23 (0, 0))
  cs : W.heap[bs]? = some (.cells #[vs] 23 (0, 0))
  cv : W.heap[bv]? = some (.cells #[vv] 60 (0, 0))
  cw : W.heap[bw]? = some (.cells #[.int .i64 w] 3 (0, 0))
  ch : W.heap[bh]? = some (.cells #[.int .i64 h] 3 (0, 0))
  ct : W.heap[bt]? = some (.cells #[.bool turn] 4 (0, 0))
  cl : W.heap[bl]? = some (.cells #[vl] 77 (0, 0))
  b : Below w0.heap.size w0 W
  ne : bn ≠ bs ∧ w0.heap.size ≤ bn
  oks : (ok bn ∧ ok bs) ∧ (ok bv ∧ ok bw) ∧ (ok bh ∧ ok bt) ∧ ok bl
  j : J W ok s
theorem en_lt {W : World} {b : Nat} {o : Obj} (h : W.heap[b]? = some o) : b < W.heap.size := (Array.getElem?_eq_some_iff.1 h).1
theorem en_cell {W : World} {b t : Nat} {v : Value} (h : W.heap[b]? = some (.cells #[v] t (0, 0))) : W.cell? ⟨b, 0, none⟩ = some v ∧ W.frozen? ⟨b, 0, none⟩ = false := by
  refine ⟨by simp [World.cell?, h], by simp [World.frozen?, h]⟩
theorem en_ne {W : World} {a b t t' : Nat} {cs cs' : Array Value} (h : W.heap[a]? = some (.cells cs t (0, 0))) (h' : W.heap[b]? = some (.cells cs' t' (0, 0))) (ht : t ≠ t') : a ≠ b := by
  intro e
  subst e
  rw [h] at h'
  injection h' with h'
  injection h' with _ h'
  exact ht h'
section
variable {St : Type} {gv : Nat} {lbv : Array Value} {vis : List Int → St → Bool × St} {J : World → (Nat → Prop) → St → Prop} {w0 W W' : World} {bn bs bv bw bh bt bl : Nat} {vs vv vl : Value} {w h : Int} {turn : Bool} {vn : Value} {ns : List Int} {ok : Nat → Prop} {s : St}
theorem EnI.keep (V : EnV w0 gv lbv vis J) (hI : EnI J w0 W bn bs bv bw bh bt bl vs vv vl w h turn vn ns ok s) (hsz : W.heap.size ≤ W'.heap.size) (hk : ∀ k, k < W.heap.size → W'.heap[k]? = W.heap[k]?) (hb : Below w0.heap.size w0 W') : EnI J w0 W' bn bs bv bw bh bt bl vs vv vl w h turn vn ns ok s :=
  ⟨Kd.R_step hI.p (fun k _ hlt => hk k hlt), (hk _ (en_lt hI.cn)).trans hI.cn, (hk _ (en_lt hI.cs)).trans hI.cs, (hk _ (en_lt hI.cv)).trans hI.cv, (hk _ (en_lt hI.cw)).trans hI.cw, (hk _ (en_lt hI.ch)).trans hI.ch, (hk _ (en_lt hI.ct)).trans hI.ct, (hk _ (en_lt hI.cl)).trans hI.cl, hb, hI.ne, hI.oks, V.step hI.j (fun k hlt _ => hk k hlt)⟩
theorem EnI.below (V : EnV w0 gv lbv vis J) (hI : EnI J w0 W bn bs bv bw bh bt bl vs vv vl w h turn vn ns ok s) (hb : Below W.heap.size W W') : EnI J w0 W' bn bs bv bw bh bt bl vs vv vl w h turn vn ns ok s :=
  hI.keep V hb.size (fun k hlt => hb.block k hlt) (below_step hI.b hb)
/-- The nest's row has turned; its value is stored. -/
theorem EnI.store (V : EnV w0 gv lbv vis J) (hI : EnI J w0 W bn bs bv bw bh bt bl vs vv vl w h turn vn ns ok s) {W2 : World} {v1 : Value} {ns1 : List Int}
    (hr : Kd.R (Kd.int .i64) 3 W2 w0.heap.size (fun k => (k ≠ bw ∧ k ≠ bh) ∧ ok k) v1 ns1) (hsz : W.heap.size ≤ W2.heap.size) (ho : ∀ b, b < W.heap.size → some b ≠ vn.ownBlock → W2.heap[b]? = W.heap[b]?) (hb : Below w0.heap.size w0 W2) :
    EnI J w0 (W2.setCell ⟨bn, 0, none⟩ v1) bn bs bv bw bh bt bl vs vv vl w h turn v1 ns1 ok s := by
  have ty := Kd.R_typed hI.p
  have other : ∀ {b t : Nat} {cs : Array Value}, W.heap[b]? = some (.cells cs t (0, 0)) → t ≠ 3 → W2.heap[b]? = some (.cells cs t (0, 0)) := fun {b t cs} hc ht => (ho b (en_lt hc) (fun e => by
    obtain ⟨cs', hcs'⟩ := ty b e.symm
    exact en_ne hc hcs' ht rfl)).trans hc
  have e2 := other hI.cn (by decide)
  have set : ∀ {b : Nat}, b ≠ bn → (W2.setCell ⟨bn, 0, none⟩ v1).heap[b]? = W2.heap[b]? := fun {b} hne => Below.heap_setCell W2 ⟨bn, 0, none⟩ v1 b hne
  have cw2 := (ho bw (en_lt hI.cw) (fun e => (hI.p.1 bw e.symm).1.1 rfl)).trans hI.cw
  have ch2 := (ho bh (en_lt hI.ch) (fun e => (hI.p.1 bh e.symm).1.2 rfl)).trans hI.ch
  refine ⟨Kd.R_set hr e2 (by decide) 0 v1, ?_, (set (fun e => hI.ne.1 e.symm)).trans (other hI.cs (by decide)), (set (en_ne hI.cv hI.cn (by decide))).trans (other hI.cv (by decide)), (set (en_ne hI.cw hI.cn (by decide))).trans cw2, (set (en_ne hI.ch hI.cn (by decide))).trans ch2, (set (en_ne hI.ct hI.cn (by decide))).trans (other hI.ct (by decide)), (set (en_ne hI.cl hI.cn (by decide))).trans (other hI.cl (by decide)), below_set hb hI.ne.2, hI.ne, hI.oks, ?_⟩
  · show (W2.heap.modify bn _)[bn]? = _
    rw [Array.getElem?_modify, if_pos rfl, e2]
    rfl
  · refine V.step hI.j (fun k hlt hk => ?_)
    rw [set (show k ≠ bn from fun e => hk (by rw [e]; exact hI.oks.1.1))]
    exact ho k hlt (fun e => hk (hI.p.1 k e.symm).2)
/-- Behind the visitor. -/
theorem EnI.visited {ok' : Nat → Prop} {s' : St} (hI : EnI J w0 W bn bs bv bw bh bt bl vs vv vl w h turn vn ns ok s) (hj : J W' ok' s') (hb : Below w0.heap.size w0 W') (hsz : W.heap.size ≤ W'.heap.size) (hk : ∀ k, k < W.heap.size → ok k → W'.heap[k]? = W.heap[k]?) (hok : ∀ k, k < W.heap.size → ok k → ok' k) :
    EnI J w0 W' bn bs bv bw bh bt bl vs vv vl w h turn vn ns ok' s' := by
  obtain ⟨⟨o1, o2⟩, ⟨o3, o4⟩, ⟨o5, o6⟩, o7⟩ := hI.oks
  exact ⟨Kd.R_mono (Kd.R_step (Kd.R_bound hI.p) (fun k hk2 hlt => hk k hlt hk2.1.2)) (fun k hk2 => ⟨hk2.1.1, hok k hk2.2.2.1 hk2.1.2⟩), (hk _ (en_lt hI.cn) o1).trans hI.cn, (hk _ (en_lt hI.cs) o2).trans hI.cs, (hk _ (en_lt hI.cv) o3).trans hI.cv, (hk _ (en_lt hI.cw) o4).trans hI.cw, (hk _ (en_lt hI.ch) o5).trans hI.ch, (hk _ (en_lt hI.ct) o6).trans hI.ct, (hk _ (en_lt hI.cl) o7).trans hI.cl, hb, hI.ne, ⟨⟨hok _ (en_lt hI.cn) o1, hok _ (en_lt hI.cs) o2⟩, ⟨hok _ (en_lt hI.cv) o3, hok _ (en_lt hI.cw) o4⟩, ⟨hok _ (en_lt hI.ch) o5, hok _ (en_lt hI.ct) o6⟩, hok _ (en_lt hI.cl) o7⟩, hj⟩
theorem EnI.fresh (V : EnV w0 gv lbv vis J) (hI : EnI J w0 W bn bs bv bw bh bt bl vs vv vl w h turn vn ns ok s) : ∀ k, W.heap.size ≤ k → (k ≠ bw ∧ k ≠ bh) ∧ ok k := fun k hk => by
  have h1 := en_lt hI.cw
  have h2 := en_lt hI.ch
  exact ⟨⟨by omega, by omega⟩, V.fresh hI.j k hk⟩
end
/-- What a search keeps besides. -/
structure EnK (W W' : World) (bn : Nat) (vn vn' : Value) (ok ok' : Nat → Prop) : Prop where
  sz : W.heap.size ≤ W'.heap.size
  keep : ∀ k, k < W.heap.size → (k ≠ bn ∧ some k ≠ vn.ownBlock) ∧ ok k → W'.heap[k]? = W.heap[k]?
  own : vn'.ownBlock = vn.ownBlock ∨ ∃ b, vn'.ownBlock = some b ∧ W.heap.size ≤ b
  ok : ∀ k, k < W.heap.size → ok k → ok' k
section
variable {W W1 W2 : World} {bn : Nat} {vn vn1 vn2 : Value} {ok ok1 ok2 : Nat → Prop}
theorem EnK.ne (h : EnK W W1 bn vn vn1 ok ok1) (k : Nat) (hk : k < W.heap.size) (hne : some k ≠ vn.ownBlock) : some k ≠ vn1.ownBlock := fun e => by
  rcases h.own with o | ⟨b, o, hb⟩
  · exact hne (e.trans o)
  · have : k = b := Option.some.inj (e.trans o)
    omega
theorem EnK.trans (h : EnK W W1 bn vn vn1 ok ok1) (h2 : EnK W1 W2 bn vn1 vn2 ok1 ok2) : EnK W W2 bn vn vn2 ok ok2 := by
  refine ⟨Nat.le_trans h.sz h2.sz, fun k hk hh => ?_, ?_, fun k hk hh => h2.ok k (Nat.lt_of_lt_of_le hk h.sz) (h.ok k hk hh)⟩
  · exact (h2.keep k (Nat.lt_of_lt_of_le hk h.sz) ⟨⟨hh.1.1, h.ne k hk hh.1.2⟩, h.ok k hk hh.2⟩).trans (h.keep k hk hh)
  · rcases h2.own with o | ⟨b, o, hb⟩
    · rcases h.own with o1 | ⟨b1, o1, hb1⟩
      · exact .inl (o.trans o1)
      · exact .inr ⟨b1, o.trans o1, hb1⟩
    · exact .inr ⟨b, o, Nat.le_trans h.sz hb⟩
theorem EnK.row {B : Nat} {v : Value} {xs : List Int} (h : EnK W W1 bn vn vn1 ok ok1) (hr : Kd.R (Kd.int .i64) 3 W B (fun k => (k ≠ bn ∧ some k ≠ vn.ownBlock) ∧ ok k) v xs) : Kd.R (Kd.int .i64) 3 W1 B (fun k => (k ≠ bn ∧ some k ≠ vn1.ownBlock) ∧ ok1 k) v xs :=
  Kd.R_mono (Kd.R_step (Kd.R_bound hr) (fun k hk2 hlt => h.keep k hlt hk2.1)) (fun k hk2 => ⟨⟨hk2.1.1.1, h.ne k hk2.2.2.1 hk2.1.1.2⟩, h.ok k hk2.2.2.1 hk2.1.2⟩)
theorem EnK.of_below (hb : Below W.heap.size W W1) : EnK W W1 bn vn vn ok ok :=
  ⟨hb.size, fun k hk _ => hb.block k hk, .inl rfl, fun _ _ hh => hh⟩
theorem EnK.stored {v1 : Value} (hsz : W.heap.size ≤ W1.heap.size) (ho : ∀ b, b < W.heap.size → some b ≠ vn.ownBlock → W1.heap[b]? = W.heap[b]?) (hat : v1.ownBlock = vn.ownBlock ∨ ∃ b, v1.ownBlock = some b ∧ W.heap.size ≤ b) : EnK W (W1.setCell ⟨bn, 0, none⟩ v1) bn vn v1 ok ok := by
  refine ⟨by simpa [World.setCell] using hsz, fun k hk hh => ?_, hat, fun _ _ hh => hh⟩
  rw [Below.heap_setCell W1 ⟨bn, 0, none⟩ v1 k hh.1.1]
  exact ho k hk hh.1.2
theorem EnK.visited (hsz : W.heap.size ≤ W1.heap.size) (hk : ∀ k, k < W.heap.size → ok k → W1.heap[k]? = W.heap[k]?) (hok : ∀ k, k < W.heap.size → ok k → ok1 k) : EnK W W1 bn vn vn ok ok1 :=
  ⟨hsz, fun k h1 h2 => hk k h1 h2.2, .inl rfl, hok⟩
end
set_option maxHeartbeats 8000000 in
set_option maxRecDepth 100000 in
theorem en.calls {St : Type} (gv : Nat) (lbv : Array Value) (vis : List Int → St → Bool × St) (J : World → (Nat → Prop) → St → Prop) (k : Nat) : ∀ (w0 : World) (_V : EnV w0 gv lbv vis J) (bn bs bv bw bh bt bl : Nat) (A1 : Option Addr) (c1 : Nat) (l1 : List Int) (wd ht : Int) (turn : Bool) (_hr1 : Kd.C (Kd.int .i64) w0 A1 l1.length l1) (_hc1 : l1.length ≤ c1) (W : World) (vn : Value) (ns : List Int) (ok : Nat → Prop) (s : St) (free : Int) (b : Bool) (s' : St) (_hI : EnI J w0 W bn bs bv bw bh bt bl (.slice A1 l1.length c1) (.func (.func gv) #[] lbv) (enF bn bs bv bw bh bt bl) wd ht turn vn ns ok s) (_h : en.lay vis k wd ht turn l1 free ns s = some (b, s')),
    Calls Try.prog 75 #[.int .i64 free, .pointer (some ⟨bn, 0, none⟩), .pointer (some ⟨bs, 0, none⟩), .pointer (some ⟨bv, 0, none⟩), .pointer (some ⟨bw, 0, none⟩), .pointer (some ⟨bh, 0, none⟩), .pointer (some ⟨bt, 0, none⟩), .pointer (some ⟨bl, 0, none⟩)] W fun e w' => e = .returned (.bool b) ∧ ∃ vn' ok', EnI J w0 w' bn bs bv bw bh bt bl (.slice A1 l1.length c1) (.func (.func gv) #[] lbv) (enF bn bs bv bw bh bt bl) wd ht turn vn' ns ok' s' ∧ EnK W w' bn vn vn' ok ok' := by
  induction k using Nat.strongRecOn with
  | _ k ih =>
  intro w0 V bn bs bv bw bh bt bl A1 c1 l1 wd ht turn hr1 hc1 W vn ns ok s free b s' hI h
  cases k with
  | zero => exact absurd h (by simp [en.lay])
  | succ k =>
  simp only [en.lay] at h
  have IH := Aside0.mk ih
  have HV := Aside0.mk V
  have HR := Aside0.mk hr1
  have HC := Aside0.mk hc1
  have HI := Aside0.mk hI
  clear ih hr1 hc1 hI V
  by_cases cl : ns.length < 100
  · rw [if_pos cl] at h
    obtain ⟨An, cn_, en_⟩ := Kd.R_slice HI.out.p
    subst en_
    obtain ⟨hxn, hfn⟩ := en_cell HI.out.cn
    obtain ⟨hxs, _⟩ := en_cell HI.out.cs
    have HCL := Aside0.mk cl
    have HCL' := Aside0.mk (show ns.length < 1000 by omega)
    clear cl
    by_cases c2 : ns.length = l1.length
    · rw [if_pos c2] at h
      have h3 := Option.some.inj h
      have c2b0 : ((ns.length : Int) == (l1.length : Int)) = true := beq_iff_eq.mpr (by omega)
      clear c2 h
      obtain ⟨hxv, _⟩ := en_cell HI.out.cv
      go_enter Try.func75, Try.ntmps75
      have eg := HV.out.enter
      have HID := Aside0.mk (HI.out.below HV.out (pw_below_drewN (Below.refl _ _) 1 : Below W.heap.size W W.drew))
      have HCLONE := Aside0.mk (en_clone (w := W.drew) HID.out.p HCL'.out)
      go_upto_region 2 with (fail)
      go_region_held3 (fun w' => w'.cell? ⟨bv, 0, none⟩ = some (.func (.func gv) #[] lbv) ∧ w'.cell? ⟨bn, 0, none⟩ = some (.slice An ns.length cn_)) (first | exact ⟨hxv, hxn⟩ | exact ⟨hxv1, hxn1⟩ | exact ⟨hxv2, hxn2⟩) (first | (go_at_call 76; refine HCLONE.out.mono ?_; rintro e w1 ⟨v0, rfl, hr, hb⟩; have HI1 := Aside0.mk (HID.out.below HV.out hb); have HR1 := Aside0.mk hr; have HB1 := Aside0.mk hb; clear hr hb; obtain ⟨hxv1, _⟩ := en_cell HI1.out.cv; obtain ⟨hxn1, _⟩ := en_cell HI1.out.cn) | (refine (HV.out.calls (W := w1) (W1 := W.drew) (s := s) (xs := ns) HI1.out.j HI1.out.b HID.out.b.size HB1.out.size HR1.out (fun k_ hk_ => HV.out.fresh HID.out.j k_ (Kd.R_base HR1.out k_ hk_))).mono ?_; rintro e w2 ⟨rfl, hb2, hz2, hk2, okn, hj2, hn2⟩; have HI2 := Aside0.mk (HID.out.visited hj2 hb2 (Nat.le_trans HB1.out.size hz2) (fun k_ h1_ h2_ => (hk2 k_ (Nat.lt_of_lt_of_le h1_ HB1.out.size) h2_).trans (HB1.out.block k_ h1_)) (fun k_ h1_ h2_ => hn2 k_ h2_ (fun e_ => absurd (Kd.R_base HR1.out k_ e_.symm) (Nat.not_le.mpr h1_)))); have HK2 := Aside0.mk (EnK.visited (W := W) (bn := bn) (vn := .slice An ns.length cn_) (Nat.le_trans HB1.out.size hz2) (fun k_ h1_ h2_ => (hk2 k_ (Nat.lt_of_lt_of_le h1_ HB1.out.size) h2_).trans (HB1.out.block k_ h1_)) (fun k_ h1_ h2_ => hn2 k_ h2_ (fun e_ => absurd (Kd.R_base HR1.out k_ e_.symm) (Nat.not_le.mpr h1_)))); clear hb2 hz2 hk2 hn2 hj2; obtain ⟨hxv2, _⟩ := en_cell HI2.out.cv; obtain ⟨hxn2, _⟩ := en_cell HI2.out.cn))
      go_wp2
      go_ret
      exact ⟨rfl, _, _, by have e_ := HI2.out; rw [h3] at e_; exact e_, HK2.out⟩
    · rw [if_neg c2] at h
      have c2b0 : ((ns.length : Int) == (l1.length : Int)) = false := beq_eq_false_iff_ne.mpr (by omega)
      by_cases c3 : ns.length < l1.length
      · rw [if_pos c3] at h
        obtain ⟨L, hL, h⟩ := Option.bind_eq_some_iff.mp h
        obtain ⟨ad, ed, hx⟩ := Kd.at_int (Kd.C_below HR.out HI.out.b) (ns.length : Int) (by omega) (by omega)
        cases ed
        have c3b0 : (0 ≤ (ns.length : Int)) = True := eq_true (by omega)
        have c3b1 : ((ns.length : Int) < (l1.length : Int)) = True := eq_true (by omega)
        obtain ⟨p, hp⟩ : ∃ p_, rd l1 (ns.length : Int) = p_ := ⟨_, rfl⟩
        rw [hp] at hL hx
        rw [Int.toNat_natCast] at hx
        have H' := Aside0.mk h
        have HLL := Aside0.mk hL
        obtain ⟨hxw, _⟩ := en_cell HI.out.cw
        obtain ⟨hxh, _⟩ := en_cell HI.out.ch
        obtain ⟨hxt, _⟩ := en_cell HI.out.ct
        clear h hp c2 hL c3
        have HID := Aside0.mk (HI.out.below HV.out (pw_below_drewN (Below.refl _ _) 1 : Below W.heap.size W W.drew))
        have HLAY := Aside0.mk (impl_layings.calls k wd ht free p turn L W.drew HLL.out)
        go_enter Try.func75, Try.ntmps75
        go_upto_region 3 with (fail)
        go_region_held3 (fun w' => w'.cell? ⟨bw, 0, none⟩ = some (.int .i64 wd) ∧ w'.cell? ⟨bh, 0, none⟩ = some (.int .i64 ht) ∧ w'.cell? ⟨bs, 0, none⟩ = some (.slice (some ad) l1.length c1) ∧ w'.cell? ⟨bn, 0, none⟩ = some (.slice An ns.length cn_) ∧ w'.cell? (ad.add ns.length) = some (.int .i64 p) ∧ w'.cell? ⟨bt, 0, none⟩ = some (.bool turn)) (first | exact ⟨hxw, hxh, hxs, hxn, hx, hxt⟩ | exact ⟨hxw1, hxh1, hxs1, hxn1, hx1, hxt1⟩) (first | (go_at_call 42; refine HLAY.out.mono ?_; rintro e w1 ⟨v0, rfl, hr, hb⟩; obtain ⟨AL, cL, eL⟩ := Kd.R_slice hr; subst eL; have HI1 := Aside0.mk (HID.out.below HV.out hb); have HR1 := Aside0.mk hr; have HBB := Aside0.mk hb; have hx1 := (hb.cell (World.block_lt_of_cell? W _ hx)).trans hx; clear hr hb; obtain ⟨hxw1, _⟩ := en_cell HI1.out.cw; obtain ⟨hxh1, _⟩ := en_cell HI1.out.ch; obtain ⟨hxt1, _⟩ := en_cell HI1.out.ct; obtain ⟨hxs1, _⟩ := en_cell HI1.out.cs; obtain ⟨hxn1, _⟩ := en_cell HI1.out.cn))
        have HK1 := Aside0.mk (EnK.of_below (bn := bn) (vn := .slice An ns.length cn_) (ok := ok) (below_step (pw_below_drewN (Below.refl _ _) 1 : Below W.heap.size W W.drew) HBB.out))
        have HL := Aside0.mk (show Kd.R (Kd.int .i64) 3 w1 W.heap.size (fun k => (k ≠ bn ∧ some k ≠ (Value.slice An ns.length cn_).ownBlock) ∧ ok k) (.slice AL L.length cL) L from Kd.R_mono (Kd.R_bound HR1.out) (fun k hk => ⟨⟨fun e => by have := en_lt HI.out.cn; have h9 := hk.2.1; have : W.heap.size ≤ k := h9; omega, fun e => by
          have h9 : W.heap.size ≤ k := hk.2.1
          obtain ⟨cs', hcs'⟩ := Kd.R_typed HI.out.p k e.symm
          have := en_lt hcs'
          omega⟩, HV.out.fresh HI.out.j k hk.2.1⟩))
        clear hxn hxs hxw hxh hxt hx hxw1 hxh1 hxs1 hxn1 hx1 hxt1 hfn HBB HR1 HLAY HLL HID c2b0 c3b0 c3b1
        have HN := Aside0.mk (show ns.length < 100 from HCL.out)
        go_wp2
        go_loopg [33] k (fun kq v33 w' => ∃ (i : Int) (vn : Value) (okk : Nat → Prop) (s : St), v33 = .int .i64 i ∧ Aside0 (en.lp vis kq wd ht turn l1 free ns L i s = some (b, s')) ∧ Aside0 (kq ≤ k) ∧ Aside0 (EnI J w0 w' bn bs bv bw bh bt bl (.slice (some ad) l1.length c1) (.func (.func gv) #[] lbv) (enF bn bs bv bw bh bt bl) wd ht turn vn ns okk s) ∧ Aside0 (EnK W w' bn (.slice An ns.length cn_) vn ok okk) ∧ Aside0 (Kd.R (Kd.int .i64) 3 w' W.heap.size (fun k => (k ≠ bn ∧ some k ≠ vn.ownBlock) ∧ okk k) (.slice AL L.length cL) L))
        case atStart => exact ⟨0, _, _, s, rfl, H', ⟨Nat.le_refl _⟩, HI1, HK1, HL⟩
        case round =>
          clear H' HI1 HK1 HL HI
          obtain ⟨i, vn, okk, s, rfl, HA, HKQ, HI, HK, HL⟩ := hrel
          cases gk with
          | zero => exact absurd HA.out (by simp [en.lp])
          | succ k1 =>
            have H := HA.out
            clear HA
            simp only [en.lp] at H
            by_cases c4 : i < (L.length : Int)
            · rw [if_pos c4] at H
              have c4b0 : decide (i < (L.length : Int)) = true := decide_eq_true c4
              by_cases c5 : 0 ≤ i
              · rw [if_pos c5] at H
                obtain ⟨⟨b2, s2⟩, hput, H⟩ := Option.bind_eq_some_iff.mp H
                obtain ⟨aL, eL, hxL⟩ := Kd.at_int (Kd.R_reads' HL.out).2.2 i c5 c4
                cases eL
                obtain ⟨m, hm⟩ : ∃ m_, rd L i = m_ := ⟨_, rfl⟩
                rw [hm] at hput hxL
                have HPUT := Aside0.mk hput
                have H' := Aside0.mk H
                have c5b := eq_true c5
                have c4b := eq_true c4
                obtain ⟨Am, cm_, em⟩ := Kd.R_slice HI.out.p
                subst em
                obtain ⟨hxn, hfn⟩ := en_cell HI.out.cn
                clear hput H hm c4 c5
                go_upto_region 7 with (first | ((with_reducible refine gate_builtin (b := .append) (xs := #[.tmp 37, .tmp 39]) rfl ?_); at_builtin; refine Kd.R_append (Kd.int .i64) (w0 := w0) w0.heap.size rfl (.tmp 37) (.tmp 39) 23 3 (.int .i64 0) 8 rfl Try.underlying23 info3 rfl (by decide) (by omega) (.slice Am ns.length cm_) ns m [.int .i64 m] (fun k => (k ≠ bw ∧ k ≠ bh) ∧ okk k) (fun _ => False) rfl rfl ?aP (fun _ hk => hk.elim) ?aF ?aO ?aB ?aS ?aL ?_; (case aP => exact rfl); (case aF => exact HI.out.fresh HV.out); (case aO => exact HI.out.p); (case aB => exact HI.out.b); (case aS => exact HI.out.b.size); (case aL => have := HN.out; omega); intro v1 w1 ho hb hg hat; obtain ⟨Av1, cv1, ev1⟩ := Kd.R_slice ho; subst ev1; obtain ⟨hx1, hf1⟩ : w1.cell? ⟨bn, 0, none⟩ = some (.slice Am ns.length cm_) ∧ w1.frozen? ⟨bn, 0, none⟩ = false := en_cell ((hg.block bn (en_lt HI.out.cn) (fun e_ => by
                  obtain ⟨cs', hcs'⟩ := Kd.R_typed HI.out.p bn e_.symm
                  exact en_ne HI.out.cn hcs' (by decide) rfl)).trans HI.out.cn); have HS := Aside0.mk (HI.out.store HV.out ho hg.size (fun b_ h1_ h2_ => hg.block b_ h1_ h2_) hb); have HKS := Aside0.mk (EnK.stored (bn := bn) (ok := okk) hg.size (fun b_ h1_ h2_ => hg.block b_ h1_ h2_) hat); clear ho hb hg hat))
                have HI6 := Aside0.mk (by have e := HS.out; simp only [List.length_append, List.length_singleton] at e; exact e)
                have HK6 := Aside0.mk (by have e := HK.out.trans HKS.out; simp only [List.length_append, List.length_singleton] at e; exact e)
                have HL6 := Aside0.mk (by have e := HKS.out.row HL.out; simp only [List.length_append, List.length_singleton] at e; exact e)
                clear HS HKS hx1 hf1 hxn hfn HI HK HL hxL c4b c5b
                generalize (w1.setCell ⟨bn, 0, none⟩ (.slice Av1 (ns.length + 1) cv1)) = w6 at HI6 HK6 HL6 ⊢
                obtain ⟨hxf, _⟩ := en_cell HI6.out.cl
                unfold enF at hxf
                go_wp2_with fail
                refine (IH.out k1 (by have := HKQ.out; omega) w0 HV.out bn bs bv bw bh bt bl (some ad) c1 l1 wd ht turn HR.out HC.out w6 _ _ _ _ (Go.bits .andNot .i64 free m) b2 s2 HI6.out HPUT.out).mono ?_
                rintro e w7 ⟨rfl, vn7, ok7, hI7, hK7⟩
                have HI7 := Aside0.mk hI7
                have HK7 := Aside0.mk (HK6.out.trans hK7)
                have HL7 := Aside0.mk (hK7.row HL6.out)
                clear hI7 hK7 HI6 HK6 HL6 hxf
                obtain ⟨gp, cp2, ep2, _, _, _, _⟩ := Kd.R_form HI7.out.p (by rw [List.length_append, List.length_singleton]; omega)
                subst ep2
                obtain ⟨hxp, hfp⟩ := en_cell HI7.out.cn
                have hcap := (Kd.R_reads' HI7.out.p).2.1
                rw [List.length_append, List.length_singleton] at hxp hcap
                have hw0 : wrap64 (((ns.length + 1 : Nat) : Int) - 1) = (ns.length : Int) := by
                  have := HN.out
                  unfold wrap64
                  omega
                have hw0' : wrap64 ((ns.length : Int) + 1 - 1) = (ns.length : Int) := by
                  have := HN.out
                  unfold wrap64
                  omega
                have hw0'' : wrap64 (ns.length : Int) = (ns.length : Int) := by
                  have := HN.out
                  unfold wrap64
                  omega
                have hw1 : (0 ≤ (ns.length : Int)) = True := eq_true (by omega)
                have hw2 : ((ns.length : Int) ≤ (cp2 : Int)) = True := eq_true (by omega)
                have HT := Aside0.mk (show Kd.R (Kd.int .i64) 3 w7 w0.heap.size (fun k => (k ≠ bw ∧ k ≠ bh) ∧ ok7 k) (.slice (some ⟨gp, 0, none⟩) ns.length cp2) ns from by
                  have e := HI7.out.p
                  have e2 := Kd.R_take e (show ns.length ≤ (ns ++ [m]).length by rw [List.length_append, List.length_singleton]; exact Nat.le_succ _)
                  rw [List.take_left] at e2
                  exact e2)
                clear hcap
                go_upto_region 9 with (fail)
                have HI8 := Aside0.mk (HI7.out.store HV.out HT.out (Nat.le_refl _) (fun _ _ _ => rfl) HI7.out.b)
                have HKT := Aside0.mk (EnK.stored (W := w7) (W1 := w7) (bn := bn) (vn := .slice (some ⟨gp, 0, none⟩) (ns ++ [m]).length cp2) (v1 := .slice (some ⟨gp, 0, none⟩) ns.length cp2) (ok := ok7) (Nat.le_refl _) (fun _ _ _ => rfl) (.inl rfl))
                have HK8 := Aside0.mk (HK7.out.trans HKT.out)
                have HL8 := Aside0.mk (HKT.out.row HL7.out)
                clear hxp hfp HT HI7 HK7 HL7 HKT hw0 hw0' hw0'' hw1 hw2
                generalize w7.setCell ⟨bn, 0, none⟩ (.slice (some ⟨gp, 0, none⟩) ns.length cp2) = w8 at HI8 HK8 HL8 ⊢
                cases b2 with
                | true =>
                  have HH := H'.out
                  simp only [if_true] at HH
                  have H9 := Aside0.mk HH
                  clear HH H'
                  go_wp2
                  go_roundg k1
                  case measure => have := HKQ.out; omega
                  case rel => exact ⟨wrap64 (i + 1), _, _, s2, by first | rfl | (simp; done), H9, ⟨by have := HKQ.out; omega⟩, HI8, HK8, HL8⟩
                | false =>
                  have HH := H'.out
                  simp only [Bool.false_eq_true, if_false, Option.some.injEq, Prod.mk.injEq] at HH
                  obtain ⟨rfl, rfl⟩ := HH
                  go_wp2
                  go_ret
                  exact ⟨rfl, _, _, HI8.out, HK8.out⟩
              · rw [if_neg c5] at H
                exact absurd H (by simp)
            · rw [if_neg c4] at H
              have c4b0 : decide (i < (L.length : Int)) = false := decide_eq_false c4
              simp only [Option.some.injEq, Prod.mk.injEq] at H
              obtain ⟨rfl, rfl⟩ := H
              go_wp2
              go_ret
              exact ⟨rfl, _, _, HI.out, HK.out⟩
      · rw [if_neg c3] at h
        exact absurd h (by simp)
  · rw [if_neg cl] at h
    exact absurd h (by simp)
theorem en_new (W : World) (o : Obj) {n : Nat} (h : W.heap.size = n) : (W.alloc o).heap[n]? = some o := by
  subst h
  show (W.heap.push _)[W.heap.size]? = _
  simp
theorem en_old {W : World} {b : Nat} {o : Obj} (o' : Obj) (h : W.heap[b]? = some o) : (W.alloc o').heap[b]? = some o :=
  ((below_alloc (Below.refl W.heap.size W) o').block b (en_lt h)).trans h
theorem en_size (W : World) (o : Obj) {n : Nat} (h : W.heap.size = n) : (W.alloc o).heap.size = n + 1 := by
  subst h
  show (W.heap.push _).size = _
  simp
theorem en_empty (W : World) (base : Nat) {n : Nat} (h : W.heap.size = n) (hb : base ≤ n) : Kd.R (Kd.int .i64) 3 (W.alloc (.cells #[] 3)) base (fun k => k = n) (.slice (some ⟨n, 0, none⟩) 0 0) ([] : List Int) := by
  subst h
  refine ⟨fun k hk => ?_, [], ?_, Reps.none _ _⟩
  · have : W.heap.size = k := by simpa [Value.ownBlock] using hk
    exact this.symm
  · have h2 := World.ownsRow_lit (base := base) (e := 3) (size := 1) W (#[] : Array Value) 0 hb (by decide) (by simp)
    exact h2
section
variable {St : Type} {gv : Nat} {lbv : Array Value} {vis : List Int → St → Bool × St} {J : World → (Nat → Prop) → St → Prop} {w0 W : World} {vs vv vl : Value} {w h : Int} {turn : Bool} {ok : Nat → Prop} {s : St}
theorem EnI.start (V : EnV w0 gv lbv vis J) (hj : J W ok s) (hb : Below w0.heap.size w0 W) (n : Nat) (hn : W.heap.size = n) :
    EnI J w0 ((((((((W.alloc (.cells #[.int .i64 w] 3)).alloc (.cells #[.int .i64 h] 3)).alloc (.cells #[vs] 23)).alloc (.cells #[.bool turn] 4)).alloc (.cells #[vv] 60)).alloc (.cells #[] 3)).alloc (.cells #[.slice (some ⟨n + 1 + 1 + 1 + 1 + 1, 0, none⟩) 0 0] 23)).alloc (.cells #[vl] 77)) (n + 1 + 1 + 1 + 1 + 1 + 1) (n + 1 + 1) (n + 1 + 1 + 1 + 1) n (n + 1) (n + 1 + 1 + 1) (n + 1 + 1 + 1 + 1 + 1 + 1 + 1) vs vv vl w h turn (.slice (some ⟨n + 1 + 1 + 1 + 1 + 1, 0, none⟩) 0 0) [] ok s := by
  have s0 := hb.size
  have f := fun k (hk : n ≤ k) => V.fresh hj k (by omega)
  have z1 := en_size W (.cells #[.int .i64 w] 3) hn
  have z2 := en_size _ (.cells #[.int .i64 h] 3) z1
  have z3 := en_size _ (.cells #[vs] 23) z2
  have z4 := en_size _ (.cells #[.bool turn] 4) z3
  have z5 := en_size _ (.cells #[vv] 60) z4
  have z6 := en_size _ (.cells #[] 3) z5
  have z7 := en_size _ (.cells #[.slice (some ⟨n + 1 + 1 + 1 + 1 + 1, 0, none⟩) 0 0] 23) z6
  have hp := en_empty _ w0.heap.size z5 (by omega)
  refine ⟨Kd.R_alloc (Kd.R_alloc (Kd.R_mono hp (fun k hk => ⟨⟨by omega, by omega⟩, f k (by omega)⟩)) _) _, en_old _ (en_new _ _ z6), en_old _ (en_old _ (en_old _ (en_old _ (en_old _ (en_new _ _ z2))))), en_old _ (en_old _ (en_old _ (en_new _ _ z4))), en_old _ (en_old _ (en_old _ (en_old _ (en_old _ (en_old _ (en_old _ (en_new _ _ hn))))))), en_old _ (en_old _ (en_old _ (en_old _ (en_old _ (en_old _ (en_new _ _ z1)))))), en_old _ (en_old _ (en_old _ (en_old _ (en_new _ _ z3)))), en_new _ _ z7, below_alloc (below_alloc (below_alloc (below_alloc (below_alloc (below_alloc (below_alloc (below_alloc hb _) _) _) _) _) _) _) _, ⟨by omega, by omega⟩, ⟨⟨f _ (by omega), f _ (by omega)⟩, ⟨f _ (by omega), f _ (by omega)⟩, ⟨f _ (by omega), f _ (by omega)⟩, f _ (by omega)⟩, V.step hj (fun k hlt _ => (below_alloc (below_alloc (below_alloc (below_alloc (below_alloc (below_alloc (below_alloc (below_alloc (Below.refl W.heap.size W) _) _) _) _) _) _) _) _).block k hlt)⟩
end
set_option maxHeartbeats 8000000 in
set_option maxRecDepth 100000 in
theorem en.each {St : Type} (gv : Nat) (lbv : Array Value) (vis : List Int → St → Bool × St) (J : World → (Nat → Prop) → St → Prop) (k : Nat) (w0 : World) (V : EnV w0 gv lbv vis J) (A1 : Option Addr) (c1 : Nat) (l1 : List Int) (wd ht : Int) (turn : Bool) (hr1 : Kd.C (Kd.int .i64) w0 A1 l1.length l1) (hc1 : l1.length ≤ c1) (W : World) (ok : Nat → Prop) (s : St) (b : Bool) (s' : St) (hj : J W ok s) (hb : Below w0.heap.size w0 W) (hsh : 0 ≤ wrap64 (wd * ht)) (h : en.lay vis k wd ht turn l1 (wrap64 (shl .i64 1 (wrap64 (wd * ht)) - 1)) [] s = some (b, s')) :
    Calls Try.prog 46 #[.int .i64 wd, .int .i64 ht, .slice A1 l1.length c1, .bool turn, .func (.func gv) #[] lbv] W fun e w' => e = .returned (.tuple #[]) ∧ Below w0.heap.size w0 w' ∧ ∃ ok', J w' ok' s' := by
  obtain ⟨jm, hjm⟩ : ∃ j_ : Int, wrap64 (wd * ht) = j_ := ⟨_, rfl⟩
  rw [hjm] at hsh h
  obtain ⟨js, hjs⟩ : ∃ j_ : Int, shl .i64 1 jm = j_ := ⟨_, rfl⟩
  rw [hjs] at h
  have hjs' : (IntKind.i64.wrap (1 * 2 ^ min jm.toNat 64)) = js := hjs
  have hjs2 : (IntKind.i64.wrap (2 ^ min jm.toNat 64)) = js := by rw [← hjs', Int.one_mul]
  have hsb := eq_true hsh
  have HV := Aside0.mk V
  have HR := Aside0.mk hr1
  have HC := Aside0.mk hc1
  have HI := Aside0.mk (EnI.start (vs := .slice A1 l1.length c1) (vv := .func (.func gv) #[] lbv) (w := wd) (h := ht) (turn := turn) (vl := enF (W.heap.size + 1 + 1 + 1 + 1 + 1 + 1) (W.heap.size + 1 + 1) (W.heap.size + 1 + 1 + 1 + 1) W.heap.size (W.heap.size + 1) (W.heap.size + 1 + 1 + 1) (W.heap.size + 1 + 1 + 1 + 1 + 1 + 1 + 1)) V hj hb W.heap.size rfl)
  have HH := Aside0.mk h
  clear V hr1 hc1 hj hb h
  have hmf : ∀ (fn : Fn) (first cap : Array Value) (w : World), (Instr.makeFunc fn first cap).run Try.prog w = .ok (.func fn first cap) w := fun _ _ _ _ => rfl
  go_enter Try.func46, Try.ntmps46
  go_upto_region 4 with (fail)
  unfold enF at HI
  have HI9 := HI
  obtain ⟨w9, hw9⟩ : ∃ w_ : World, ((((((((W.alloc (.cells #[.int .i64 wd] 3)).alloc (.cells #[.int .i64 ht] 3)).alloc (.cells #[.slice A1 l1.length c1] 23)).alloc (.cells #[.bool turn] 4)).alloc (.cells #[.func (.func gv) #[] lbv] 60)).alloc (.cells #[] 3)).alloc (.cells #[.slice (some ⟨W.heap.size + 1 + 1 + 1 + 1 + 1, 0, none⟩) 0 0] 23)).alloc (.cells #[enF (W.heap.size + 1 + 1 + 1 + 1 + 1 + 1) (W.heap.size + 1 + 1) (W.heap.size + 1 + 1 + 1 + 1) W.heap.size (W.heap.size + 1) (W.heap.size + 1 + 1 + 1) (W.heap.size + 1 + 1 + 1 + 1 + 1 + 1 + 1)] 77)) = w_ := ⟨_, rfl⟩
  unfold enF at hw9
  rw [hw9] at HI9 ⊢
  obtain ⟨hxf, _⟩ := en_cell HI9.out.cl
  (try unfold enF at hxf)
  obtain ⟨hxw, _⟩ := en_cell HI9.out.cw
  obtain ⟨hxh, _⟩ := en_cell HI9.out.ch
  have HID := Aside0.mk (HI9.out.below HV.out (pw_below_drewN (Below.refl _ _) 1 : Below w9.heap.size w9 w9.drew))
  have HCALL := Aside0.mk (en.calls gv lbv vis J k w0 HV.out _ _ _ _ _ _ _ A1 c1 l1 wd ht turn HR.out HC.out w9.drew _ _ _ _ (wrap64 (js - 1)) b s' HID.out HH.out)
  clear HI HI9 hw9 HID
  generalize W.heap.size = n0 at *
  rw [← i64_w (js - 1)] at HCALL
  have hw9 := i64_w (wd * ht)
  rw [hjm] at hw9
  clear HH hjs
  go_region_held3 (fun w' => w'.cell? ⟨n0 + 1 + 1 + 1 + 1 + 1 + 1 + 1, 0, none⟩ = some (.func (.func 75) #[] #[.pointer (some ⟨n0 + 1 + 1 + 1 + 1 + 1 + 1, 0, none⟩), .pointer (some ⟨n0 + 1 + 1, 0, none⟩), .pointer (some ⟨n0 + 1 + 1 + 1 + 1, 0, none⟩), .pointer (some ⟨n0, 0, none⟩), .pointer (some ⟨n0 + 1, 0, none⟩), .pointer (some ⟨n0 + 1 + 1 + 1, 0, none⟩), .pointer (some ⟨n0 + 1 + 1 + 1 + 1 + 1 + 1 + 1, 0, none⟩)]) ∧ w'.cell? ⟨n0, 0, none⟩ = some (.int .i64 wd) ∧ w'.cell? ⟨n0 + 1, 0, none⟩ = some (.int .i64 ht)) (first | exact ⟨hxf, hxw, hxh⟩ | exact ⟨hxf1, hxw1, hxh1⟩) (first | (go_at_call 75; refine HCALL.out.mono ?_; rintro e w1 ⟨rfl, vn1, ok1, hI1, hK1⟩; have HI1 := Aside0.mk hI1; clear hI1 hK1; obtain ⟨hxf1, _⟩ := en_cell HI1.out.cl; obtain ⟨hxw1, _⟩ := en_cell HI1.out.cw; obtain ⟨hxh1, _⟩ := en_cell HI1.out.ch))
  go_wp2
  go_end0
  exact ⟨rfl, HI1.out.b, _, HI1.out.j⟩
def naVis (xs : List Int) (_ : Option (List Int)) : Bool × Option (List Int) := (false, some xs)
def naJ (w0 : World) (bf bd : Nat) (W : World) (ok : Nat → Prop) : Option (List Int) → Prop
  | none => W.heap[bf]? = some (.cells #[.slice none 0 0] 23 (0, 0)) ∧ W.heap[bd]? = some (.cells #[.bool false] 4 (0, 0)) ∧ ok = (fun k => (k ≠ bf ∧ k ≠ bd) ∧ True)
  | some xs => ∃ v : Value, W.heap[bf]? = some (.cells #[v] 23 (0, 0)) ∧ W.heap[bd]? = some (.cells #[.bool true] 4 (0, 0)) ∧ Kd.R (Kd.int .i64) 3 W w0.heap.size (fun k => some k = v.ownBlock) v xs ∧ ok = (fun k => (k ≠ bf ∧ k ≠ bd) ∧ some k ≠ v.ownBlock)
theorem naJ.boxes {w0 W : World} {bf bd : Nat} {ok : Nat → Prop} {s : Option (List Int)} (h : naJ w0 bf bd W ok s) : (∃ v, W.heap[bf]? = some (.cells #[v] 23 (0, 0))) ∧ (∃ v, W.heap[bd]? = some (.cells #[v] 4 (0, 0))) ∧ ∀ k, ok k → k ≠ bf ∧ k ≠ bd := by
  cases s with
  | none =>
    obtain ⟨h1, h2, rfl⟩ := h
    exact ⟨⟨_, h1⟩, ⟨_, h2⟩, fun k hk => hk.1⟩
  | some xs =>
    obtain ⟨v, h1, h2, _, rfl⟩ := h
    exact ⟨⟨_, h1⟩, ⟨_, h2⟩, fun k hk => hk.1⟩
set_option maxHeartbeats 2000000 in
set_option maxRecDepth 100000 in
theorem naV (w0 : World) (bf bd : Nat) (hbf : w0.heap.size ≤ bf) (hbd : w0.heap.size ≤ bd) : EnV w0 47 #[.pointer (some ⟨bf, 0, none⟩), .pointer (some ⟨bd, 0, none⟩)] naVis (naJ w0 bf bd) := by
  refine ⟨?_, ?_, enters_of Try.func47 (by kernel_rfl) rfl, ?_⟩
  · intro W W' ok s h hk
    cases s with
    | none =>
      obtain ⟨h1, h2, rfl⟩ := h
      exact ⟨(hk bf (en_lt h1) (fun e => e.1.1 rfl)).trans h1, (hk bd (en_lt h2) (fun e => e.1.2 rfl)).trans h2, rfl⟩
    | some xs =>
      obtain ⟨v, h1, h2, h3, rfl⟩ := h
      exact ⟨v, (hk bf (en_lt h1) (fun e => e.1.1 rfl)).trans h1, (hk bd (en_lt h2) (fun e => e.1.2 rfl)).trans h2, Kd.R_step h3 (fun k h4 h5 => hk k h5 (fun e => e.2 h4)), rfl⟩
  · intro W ok s h k hk
    cases s with
    | none =>
      obtain ⟨h1, h2, rfl⟩ := h
      have := en_lt h1
      have := en_lt h2
      exact ⟨⟨by omega, by omega⟩, trivial⟩
    | some xs =>
      obtain ⟨v, h1, h2, h3, rfl⟩ := h
      have := en_lt h1
      have := en_lt h2
      refine ⟨⟨by omega, by omega⟩, fun e => ?_⟩
      obtain ⟨cs, hcs⟩ := Kd.R_typed h3 k e.symm
      have := en_lt hcs
      omega
  · intro W W1 ok s vc xs h hb h1 h2 hr ho
    obtain ⟨⟨vf, g1⟩, ⟨vd, g2⟩, g3⟩ := h.boxes
    obtain ⟨Av, cv, rfl⟩ := Kd.R_slice hr
    have HB := Aside0.mk hb
    have HJ := Aside0.mk h
    have HO := Aside0.mk ho
    have HR := Aside0.mk hr
    have H1 := Aside0.mk h1
    have G1 := Aside0.mk g1
    have G2 := Aside0.mk g2
    have G3 := Aside0.mk g3
    obtain ⟨hx, hf⟩ := en_cell g1
    obtain ⟨hx2, hf2⟩ := en_cell g2
    have hne := en_ne g1 g2 (by decide)
    clear hr ho hb h g3 g1 g2
    go_enter Try.func47, Try.ntmps47
    go_wp2
    go_ret
    have s1 : ∀ k, k ≠ bf → k ≠ bd → (((W.setCell ⟨bf, 0, none⟩ (.slice Av xs.length cv)).setCell ⟨bd, 0, none⟩ (.bool true))).heap[k]? = W.heap[k]? := fun k e1 e2 => (Below.heap_setCell _ ⟨bd, 0, none⟩ _ k e2).trans (Below.heap_setCell W ⟨bf, 0, none⟩ _ k e1)
    refine ⟨rfl, below_set (below_set HB.out hbf) hbd, by simp [World.setCell], fun k _ hk => s1 k (G3.out k hk).1 (G3.out k hk).2, _, ⟨.slice Av xs.length cv, ?_, ?_, ?_, rfl⟩, fun k h1 h2 => ⟨G3.out k h1, h2⟩⟩
    · refine (Below.heap_setCell _ ⟨bd, 0, none⟩ _ bf hne).trans ?_
      show (W.heap.modify bf _)[bf]? = _
      rw [Array.getElem?_modify, if_pos rfl, G1.out]
      rfl
    · have e := (Below.heap_setCell W ⟨bf, 0, none⟩ (.slice Av xs.length cv) bd (fun e => hne e.symm)).trans G2.out
      show ((W.setCell ⟨bf, 0, none⟩ (.slice Av xs.length cv)).heap.modify bd _)[bd]? = _
      rw [Array.getElem?_modify, if_pos rfl, e]
      rfl
    · exact Kd.R_step (Kd.R_lower (Kd.R_tight rfl HR.out) H1.out) (fun k hk _ => s1 k (G3.out k (HO.out k hk.symm)).1 (G3.out k (HO.out k hk.symm)).2)
def impl_NestAll.f (k : Nat) (a0 : Int) (a1 : Int) (l2 : List Int) (a3 : Bool) : Option (List Int × Bool) := if l2.length > 5 then some ([], false) else ((impl_areShapes.f a0 a1 l2).bind fun t => if t = true then (if wrap64 (a0 * a1) > 16 then some ([], false) else ((slices_Contains_int_int.f k l2 0).bind fun c => if c = true then some ([], false) else (if 0 ≤ wrap64 (a0 * a1) then ((en.lay naVis k a0 a1 a3 l2 (wrap64 (shl .i64 1 (wrap64 (a0 * a1)) - 1)) [] none).bind fun t => some (t.2.getD [], t.2.isSome)) else none))) else some ([], false))
theorem impl_NestAll.mono : ∀ a0 a1 a2 a3 k, LeO (impl_NestAll.f k a0 a1 a2 a3) (impl_NestAll.f (k + 1) a0 a1 a2 a3) := by
  intro a0 a1 a2 a3 k
  unfold impl_NestAll.f
  exact LeO.ite (LeO.refl _) (LeO.bind (LeO.refl _) (fun _ => LeO.ite (LeO.ite (LeO.refl _) (LeO.bind (slices_Contains_int_int.mono _ _ k) (fun _ => LeO.ite (LeO.refl _) (LeO.ite (LeO.bind ((en.mono_l naVis k).1 _ _ _ _ _ _ _) (fun _ => LeO.refl _)) (LeO.none _))))) (LeO.refl _)))
set_option maxHeartbeats 8000000 in
set_option maxRecDepth 100000 in
theorem impl_NestAll.calls (k : Nat) (a0 : Int) (a1 : Int) (A2 : Option Addr) (c2 : Nat) (l2 : List Int) (a3 : Bool) (r1 : List Int) (r2 : Bool) (w : World) (hr2 : Kd.C (Kd.int .i64) w A2 l2.length l2) (hc2 : l2.length ≤ c2) (h : impl_NestAll.f k a0 a1 l2 a3 = some (r1, r2)) :
    Calls Try.prog 16 #[.int .i64 a0, .int .i64 a1, .slice A2 l2.length c2, .bool a3] w fun e w' => ∃ v0_ : Value, e = .returned (.tuple #[v0_, .bool r2]) ∧ Kd.R (Kd.int .i64) 3 w' w.heap.size (fun _ => True) v0_ r1 ∧ Below w.heap.size w w' := by
  unfold impl_NestAll.f at h
  have HR := Aside0.mk hr2
  have HC := Aside0.mk hc2
  clear hr2 hc2
  by_cases c1 : l2.length > 5
  · rw [if_pos c1] at h
    simp only [Option.some.injEq, Prod.mk.injEq] at h
    obtain ⟨rfl, rfl⟩ := h
    have c1b : decide (5 < (l2.length : Int)) = true := decide_eq_true (by omega)
    clear c1
    go_enter Try.func16, Try.ntmps16
    go_wp2
    go_ret2
    exact ⟨_, rfl, Kd.R_nil _ _ _ _ _, Below.refl _ _⟩
  · rw [if_neg c1] at h
    have c1b : decide (5 < (l2.length : Int)) = false := decide_eq_false (by omega)
    obtain ⟨t, ht, h⟩ := Option.bind_eq_some_iff.mp h
    have HT := Aside0.mk ht
    clear ht c1
    cases t with
    | false =>
      rw [if_neg (by simp)] at h
      simp only [Option.some.injEq, Prod.mk.injEq] at h
      obtain ⟨rfl, rfl⟩ := h
      go_enter Try.func16, Try.ntmps16
      go_wp2_with fail
      refine (impl_areShapes.calls a0 a1 A2 c2 l2 _ w HR.out HC.out HT.out).mono ?_
      rintro e w1 ⟨rfl, hb⟩
      have HB := Aside0.mk hb
      clear hb
      go_wp2
      go_ret2
      exact ⟨_, rfl, Kd.R_nil _ _ _ _ _, HB.out⟩
    | true =>
      rw [if_pos rfl] at h
      obtain ⟨jm, hjm⟩ : ∃ j_ : Int, wrap64 (a0 * a1) = j_ := ⟨_, rfl⟩
      rw [hjm] at h
      by_cases c3 : jm > 16
      · rw [if_pos c3] at h
        simp only [Option.some.injEq, Prod.mk.injEq] at h
        obtain ⟨rfl, rfl⟩ := h
        have c3b : decide (16 < jm) = true := decide_eq_true c3
        clear c3
        go_enter Try.func16, Try.ntmps16
        go_wp2_with fail
        refine (impl_areShapes.calls a0 a1 A2 c2 l2 _ w HR.out HC.out HT.out).mono ?_
        rintro e w1 ⟨rfl, hb⟩
        have HB := Aside0.mk hb
        clear hb
        go_wp2
        go_ret2
        exact ⟨_, rfl, Kd.R_nil _ _ _ _ _, HB.out⟩
      · rw [if_neg c3] at h
        have c3b : decide (16 < jm) = false := decide_eq_false c3
        obtain ⟨c, hc, h⟩ := Option.bind_eq_some_iff.mp h
        have HCO := Aside0.mk hc
        clear hc c3
        cases c with
        | true =>
          rw [if_pos rfl] at h
          simp only [Option.some.injEq, Prod.mk.injEq] at h
          obtain ⟨rfl, rfl⟩ := h
          go_enter Try.func16, Try.ntmps16
          go_wp2_with fail
          refine (impl_areShapes.calls a0 a1 A2 c2 l2 _ w HR.out HC.out HT.out).mono ?_
          rintro e w1 ⟨rfl, hb⟩
          have HB := Aside0.mk hb
          clear hb
          go_wp2_with fail
          refine (slices_Contains_int_int.calls k A2 c2 l2 0 _ _ (Kd.C_below HR.out HB.out) HC.out HCO.out).mono ?_
          rintro e w2 ⟨rfl, ⟨⟨nd, rfl⟩⟩⟩
          go_wp2
          go_ret2
          exact ⟨_, rfl, Kd.R_nil _ _ _ _ _, pw_below_drewN HB.out _⟩
        | false =>
          rw [if_neg (by simp)] at h
          by_cases c4 : 0 ≤ jm
          · rw [if_pos c4] at h
            obtain ⟨⟨b, s⟩, hl, h⟩ := Option.bind_eq_some_iff.mp h
            simp only [Option.some.injEq, Prod.mk.injEq] at h
            obtain ⟨rfl, rfl⟩ := h
            have HL := Aside0.mk hl
            have HJM := Aside0.mk hjm
            have HC4 := Aside0.mk c4
            have hmf : ∀ (fn : Fn) (first cap : Array Value) (w : World), (Instr.makeFunc fn first cap).run Try.prog w = .ok (.func fn first cap) w := fun _ _ _ _ => rfl
            clear hl c4
            go_enter Try.func16, Try.ntmps16
            go_wp2_with fail
            refine (impl_areShapes.calls a0 a1 A2 c2 l2 _ w HR.out HC.out HT.out).mono ?_
            rintro e w1 ⟨rfl, hb⟩
            have HB := Aside0.mk hb
            clear hb
            go_wp2_with fail
            refine (slices_Contains_int_int.calls k A2 c2 l2 0 _ _ (Kd.C_below HR.out HB.out) HC.out HCO.out).mono ?_
            rintro e w2 ⟨rfl, ⟨⟨nd, rfl⟩⟩⟩
            have HB2 := Aside0.mk (pw_below_drewN HB.out nd)
            clear HB
            generalize w1.drewN nd = w3 at HB2 ⊢
            go_wp2_with fail
            have z1 := en_size w3 (.cells #[.slice none 0 0] 23) rfl
            have hj0 : naJ w w3.heap.size (w3.heap.size + 1) ((w3.alloc (.cells #[.slice none 0 0] 23)).alloc (.cells #[.bool false] 4)) (fun k => (k ≠ w3.heap.size ∧ k ≠ w3.heap.size + 1) ∧ True) none := ⟨en_old _ (en_new _ _ rfl), en_new _ _ z1, rfl⟩
            refine (en.each 47 #[.pointer (some ⟨w3.heap.size, 0, none⟩), .pointer (some ⟨w3.heap.size + 1, 0, none⟩)] naVis (naJ w w3.heap.size (w3.heap.size + 1)) k w (naV w w3.heap.size (w3.heap.size + 1) HB2.out.size (Nat.le_succ_of_le HB2.out.size)) A2 c2 l2 a0 a1 a3 HR.out HC.out _ _ none b s hj0 (below_alloc (below_alloc HB2.out _) _) (by rw [HJM.out]; exact HC4.out) (by rw [HJM.out]; exact HL.out)).mono ?_
            rintro e w4 ⟨rfl, hb4, ok4, hj4⟩
            have HB4 := Aside0.mk hb4
            clear hb4 hj0 z1
            cases s with
            | none =>
              obtain ⟨h1, h2, rfl⟩ := hj4
              obtain ⟨hx4, hf4⟩ := en_cell h1
              obtain ⟨hx5, hf5⟩ := en_cell h2
              clear h1 h2
              go_wp2
              go_quiet (fail)
              go_wp2
              go_ret2
              exact ⟨_, rfl, Kd.R_nil _ _ _ _ _, pw_below_drewN HB4.out _⟩
            | some xs =>
              obtain ⟨v, h1, h2, h3, rfl⟩ := hj4
              obtain ⟨hx4, hf4⟩ := en_cell h1
              obtain ⟨hx5, hf5⟩ := en_cell h2
              have H3 := Aside0.mk h3
              clear h1 h2 h3
              go_wp2
              go_quiet (fail)
              go_wp2
              go_ret2
              exact ⟨_, rfl, Kd.R_drewN (Kd.R_mono H3.out (fun _ _ => trivial)) _, pw_below_drewN HB4.out _⟩
          · rw [if_neg c4] at h
            exact absurd h (by simp)

/-! ### impl_CountNests: function 17 -/
def cnVis (_ : List Int) (s : Int) : Bool × Int := (decide (wrap64 (s + 1) < 5000), wrap64 (s + 1))
def cnJ (ba : Nat) (W : World) (ok : Nat → Prop) (s : Int) : Prop := W.heap[ba]? = some (.cells #[.int .i64 s] 3 (0, 0)) ∧ ok = (fun k => k ≠ ba)
set_option maxHeartbeats 2000000 in
set_option maxRecDepth 100000 in
theorem cnV (w0 : World) (ba : Nat) (hba : w0.heap.size ≤ ba) : EnV w0 48 #[.pointer (some ⟨ba, 0, none⟩)] cnVis (cnJ ba) := by
  refine ⟨?_, ?_, enters_of Try.func48 (by kernel_rfl) rfl, ?_⟩
  · rintro W W' ok s ⟨h, rfl⟩ hk
    exact ⟨(hk ba (en_lt h) (fun e => e rfl)).trans h, rfl⟩
  · rintro W ok s ⟨h, rfl⟩ k hk
    have := en_lt h
    show k ≠ ba
    omega
  · rintro W W1 ok s vc xs ⟨h, rfl⟩ hb h1 h2 hr ho
    obtain ⟨Av, cv, rfl⟩ := Kd.R_slice hr
    have HB := Aside0.mk hb
    have HH := Aside0.mk h
    obtain ⟨hx, hf⟩ := en_cell h
    clear hr ho hb h
    by_cases c : wrap64 (s + 1) < 5000
    · have cb : decide (wrap64 (s + 1) < 5000) = true := decide_eq_true c
      have ev : (cnVis xs s) = (true, wrap64 (s + 1)) := by unfold cnVis; rw [cb]
      rw [ev]
      clear c ev
      go_enter Try.func48, Try.ntmps48
      go_wp2
      go_ret
      refine ⟨rfl, below_set HB.out hba, by simp [World.setCell], fun k _ hk => Below.heap_setCell W ⟨ba, 0, none⟩ _ k hk, _, ⟨?_, rfl⟩, fun k hk _ => hk⟩
      show (W.heap.modify ba _)[ba]? = _
      rw [Array.getElem?_modify, if_pos rfl, HH.out]
      rfl
    · have cb : decide (wrap64 (s + 1) < 5000) = false := decide_eq_false c
      have ev : (cnVis xs s) = (false, wrap64 (s + 1)) := by unfold cnVis; rw [cb]
      rw [ev]
      clear c ev
      go_enter Try.func48, Try.ntmps48
      go_wp2
      go_ret
      refine ⟨rfl, below_set HB.out hba, by simp [World.setCell], fun k _ hk => Below.heap_setCell W ⟨ba, 0, none⟩ _ k hk, _, ⟨?_, rfl⟩, fun k hk _ => hk⟩
      show (W.heap.modify ba _)[ba]? = _
      rw [Array.getElem?_modify, if_pos rfl, HH.out]
      rfl
def impl_CountNests.f (k : Nat) (a0 : Int) (a1 : Int) (l2 : List Int) (a3 : Bool) : Option Int := if l2.length > 5 then some (-1) else ((impl_areShapes.f a0 a1 l2).bind fun t => if t = true then (if wrap64 (a0 * a1) > 16 then some (-1) else ((slices_Contains_int_int.f k l2 0).bind fun c => if c = true then some (-1) else (if 0 ≤ wrap64 (a0 * a1) then ((en.lay cnVis k a0 a1 a3 l2 (wrap64 (shl .i64 1 (wrap64 (a0 * a1)) - 1)) [] 0).bind fun t => some t.2) else none))) else some (-1))
theorem impl_CountNests.mono : ∀ a0 a1 a2 a3 k, LeO (impl_CountNests.f k a0 a1 a2 a3) (impl_CountNests.f (k + 1) a0 a1 a2 a3) := by
  intro a0 a1 a2 a3 k
  unfold impl_CountNests.f
  exact LeO.ite (LeO.refl _) (LeO.bind (LeO.refl _) (fun _ => LeO.ite (LeO.ite (LeO.refl _) (LeO.bind (slices_Contains_int_int.mono _ _ k) (fun _ => LeO.ite (LeO.refl _) (LeO.ite (LeO.bind ((en.mono_l cnVis k).1 _ _ _ _ _ _ _) (fun _ => LeO.refl _)) (LeO.none _))))) (LeO.refl _)))
set_option maxHeartbeats 8000000 in
set_option maxRecDepth 100000 in
theorem impl_CountNests.calls (k : Nat) (a0 : Int) (a1 : Int) (A2 : Option Addr) (c2 : Nat) (l2 : List Int) (a3 : Bool) (r : Int) (w : World) (hr2 : Kd.C (Kd.int .i64) w A2 l2.length l2) (hc2 : l2.length ≤ c2) (h : impl_CountNests.f k a0 a1 l2 a3 = some r) :
    Calls Try.prog 17 #[.int .i64 a0, .int .i64 a1, .slice A2 l2.length c2, .bool a3] w fun e w' => e = .returned (.int .i64 r) ∧ Below w.heap.size w w' := by
  unfold impl_CountNests.f at h
  have HR := Aside0.mk hr2
  have HC := Aside0.mk hc2
  clear hr2 hc2
  by_cases c1 : l2.length > 5
  · rw [if_pos c1] at h
    obtain rfl := Option.some.inj h
    have c1b : decide (5 < (l2.length : Int)) = true := decide_eq_true (by omega)
    clear h c1
    go_enter Try.func17, Try.ntmps17
    go_wp2
    go_ret
    exact ⟨rfl, Below.refl _ _⟩
  · rw [if_neg c1] at h
    have c1b : decide (5 < (l2.length : Int)) = false := decide_eq_false (by omega)
    obtain ⟨t, ht, h⟩ := Option.bind_eq_some_iff.mp h
    have HT := Aside0.mk ht
    clear ht c1
    cases t with
    | false =>
      rw [if_neg (by simp)] at h
      obtain rfl := Option.some.inj h
      clear h
      go_enter Try.func17, Try.ntmps17
      go_wp2_with fail
      refine (impl_areShapes.calls a0 a1 A2 c2 l2 _ w HR.out HC.out HT.out).mono ?_
      rintro e w1 ⟨rfl, hb⟩
      have HB := Aside0.mk hb
      clear hb
      go_wp2
      go_ret
      exact ⟨rfl, HB.out⟩
    | true =>
      rw [if_pos rfl] at h
      obtain ⟨jm, hjm⟩ : ∃ j_ : Int, wrap64 (a0 * a1) = j_ := ⟨_, rfl⟩
      rw [hjm] at h
      by_cases c3 : jm > 16
      · rw [if_pos c3] at h
        obtain rfl := Option.some.inj h
        have c3b : decide (16 < jm) = true := decide_eq_true c3
        clear h c3
        go_enter Try.func17, Try.ntmps17
        go_wp2_with fail
        refine (impl_areShapes.calls a0 a1 A2 c2 l2 _ w HR.out HC.out HT.out).mono ?_
        rintro e w1 ⟨rfl, hb⟩
        have HB := Aside0.mk hb
        clear hb
        go_wp2
        go_ret
        exact ⟨rfl, HB.out⟩
      · rw [if_neg c3] at h
        have c3b : decide (16 < jm) = false := decide_eq_false c3
        obtain ⟨c, hc, h⟩ := Option.bind_eq_some_iff.mp h
        have HCO := Aside0.mk hc
        clear hc c3
        cases c with
        | true =>
          rw [if_pos rfl] at h
          obtain rfl := Option.some.inj h
          clear h
          go_enter Try.func17, Try.ntmps17
          go_wp2_with fail
          refine (impl_areShapes.calls a0 a1 A2 c2 l2 _ w HR.out HC.out HT.out).mono ?_
          rintro e w1 ⟨rfl, hb⟩
          have HB := Aside0.mk hb
          clear hb
          go_wp2_with fail
          refine (slices_Contains_int_int.calls k A2 c2 l2 0 _ _ (Kd.C_below HR.out HB.out) HC.out HCO.out).mono ?_
          rintro e w2 ⟨rfl, ⟨⟨nd, rfl⟩⟩⟩
          go_wp2
          go_ret
          exact ⟨rfl, pw_below_drewN HB.out _⟩
        | false =>
          rw [if_neg (by simp)] at h
          by_cases c4 : 0 ≤ jm
          · rw [if_pos c4] at h
            obtain ⟨⟨b, s⟩, hl, h⟩ := Option.bind_eq_some_iff.mp h
            obtain rfl := Option.some.inj h
            have HL := Aside0.mk hl
            have HJM := Aside0.mk hjm
            have HC4 := Aside0.mk c4
            have hmf : ∀ (fn : Fn) (first cap : Array Value) (w : World), (Instr.makeFunc fn first cap).run Try.prog w = .ok (.func fn first cap) w := fun _ _ _ _ => rfl
            clear h hl c4
            go_enter Try.func17, Try.ntmps17
            go_wp2_with fail
            refine (impl_areShapes.calls a0 a1 A2 c2 l2 _ w HR.out HC.out HT.out).mono ?_
            rintro e w1 ⟨rfl, hb⟩
            have HB := Aside0.mk hb
            clear hb
            go_wp2_with fail
            refine (slices_Contains_int_int.calls k A2 c2 l2 0 _ _ (Kd.C_below HR.out HB.out) HC.out HCO.out).mono ?_
            rintro e w2 ⟨rfl, ⟨⟨nd, rfl⟩⟩⟩
            have HB2 := Aside0.mk (pw_below_drewN HB.out nd)
            clear HB
            generalize w1.drewN nd = w3 at HB2 ⊢
            go_wp2_with fail
            refine (en.each 48 #[.pointer (some ⟨w3.heap.size, 0, none⟩)] cnVis (cnJ w3.heap.size) k w (cnV w w3.heap.size HB2.out.size) A2 c2 l2 a0 a1 a3 HR.out HC.out (w3.alloc (.cells #[.int .i64 0] 3)) (fun k => k ≠ w3.heap.size) 0 b s ⟨en_new _ _ rfl, rfl⟩ (below_alloc HB2.out _) (by rw [HJM.out]; exact HC4.out) (by rw [HJM.out]; exact HL.out)).mono ?_
            rintro e w4 ⟨rfl, hb4, ok4, hj4, rfl⟩
            have HB4 := Aside0.mk hb4
            obtain ⟨hx4, hf4⟩ := en_cell hj4
            clear hb4 hj4
            go_wp2
            go_ret
            exact ⟨rfl, HB4.out⟩
          · rw [if_neg c4] at h
            exact absurd h (by simp)

/-! ### laws_cells: function 18 -/
def laws_cells.l0 : Nat → Int → Int → Option (Int)
  | 0, _, _ => none
  | k + 1, x0, x3 => if x0 > 0 then (laws_cells.l0 k (x0 / 2) (wrap64 (x3 + (Go.bits .and .i64 x0 1)))) else (some x3)
def laws_cells.f (k : Nat) (a0 : Int) : Option (Int) := laws_cells.l0 k a0 0
theorem laws_cells.mono_l : ∀ k, (∀ y0 y1, LeO (laws_cells.l0 k y0 y1) (laws_cells.l0 (k + 1) y0 y1))
  | 0 => fun _ _ r h => by simp [laws_cells.l0] at h
  | k + 1 => by
    have ih0 := laws_cells.mono_l k
    · intro y0 y1
      unfold laws_cells.l0
      repeat' first
      | (with_reducible exact ih0 _ _)
      | (with_reducible exact LeO.refl _)
      | (with_reducible exact LeO.none _)
      | (with_reducible refine LeO.ite ?_ ?_)
      | (with_reducible refine LeO.bind ?_ (fun _ => ?_))
      | exact ih0 _ _
      | exact LeO.none _
      | refine LeO.ite ?_ ?_
      | refine LeO.bind ?_ (fun _ => ?_)
theorem laws_cells.mono : ∀ a0 k, LeO (laws_cells.f k a0) (laws_cells.f (k + 1) a0) := by
  intro a0 k
  have ih0 := laws_cells.mono_l k
  unfold laws_cells.f
  repeat' first
      | (with_reducible exact ih0 _ _)
      | (with_reducible exact LeO.refl _)
      | (with_reducible exact LeO.none _)
      | (with_reducible refine LeO.ite ?_ ?_)
      | (with_reducible refine LeO.bind ?_ (fun _ => ?_))
      | exact ih0 _ _
      | exact LeO.none _
      | refine LeO.ite ?_ ?_
      | refine LeO.bind ?_ (fun _ => ?_)
set_option maxHeartbeats 8000000 in
set_option maxRecDepth 100000 in
theorem laws_cells.calls (k : Nat) (a0 : Int) (r : Int) (w : World) (h : laws_cells.f k a0 = some r) :
    Calls Try.prog 18 #[.int .i64 a0] w fun e w' => e = .returned (.int .i64 r) ∧ Drawn0 w w' := by
  have H : (laws_cells.l0 k a0 0) = some r := h
  clear h
  have H' := Aside0.mk H
  clear H
  go_enter Try.func18, Try.ntmps18
  go_wp2
  go_loopg [0, 3] k (fun kq v0 v3 w' => ∃ (x0_1 : Int) (x3_1 : Int), v0 = .int .i64 x0_1 ∧ v3 = .int .i64 x3_1 ∧ Aside0 (laws_cells.l0 kq x0_1 x3_1 = some r) ∧ Aside0 (kq ≤ k) ∧ Drawn0 w w')
  case atStart => exact ⟨(a0), (0), (by first | rfl | (simp; done) | (simp [*]; done)), (by first | rfl | (simp; done) | (simp [*]; done)), H', ⟨Nat.le_refl _⟩, by repeat (first | exact Drawn0.refl _ | apply Drawn0.step)⟩
  case round =>
    clear H'
    try clear c1
    obtain ⟨x0_1, x3_1, rfl, rfl, HA, HK1, ⟨m1, rfl⟩⟩ := hrel
    cases gk with
    | zero => exact absurd HA.out (by simp [laws_cells.l0])
    | succ k1 =>
      have H := HA.out
      clear HA
      simp only [laws_cells.l0] at H
      by_cases c2 : x0_1 > 0
      · rw [if_pos c2] at H
        have c2b0 : decide (0 < x0_1) = true := decide_eq_true c2
        clear c2
        have H' := Aside0.mk H
        clear H
        go_wp2
        go_roundg k1
        case measure => have := HK1.out; omega
        case rel => exact ⟨(x0_1 / 2), (wrap64 (x3_1 + (Go.bits .and .i64 x0_1 1))), (by first | rfl | (simp; done) | (simp [*]; done)), (by first | rfl | (simp; done) | (simp [*]; done)), H', ⟨by have := HK1.out; omega⟩, by repeat (first | exact Drawn0.refl _ | apply Drawn0.step)⟩
      · rw [if_neg c2] at H
        have c2b0 : decide (0 < x0_1) = false := decide_eq_false c2
        clear c2
        obtain rfl := Option.some.inj H
        go_wp2
        go_ret
        exact ⟨by first | rfl | (simp; done) | (simp [*]; done), by repeat (first | exact Drawn0.refl _ | apply Drawn0.step)⟩

end Go.Proofs.Ytpnngdljfnhnfaa.XFnNests
