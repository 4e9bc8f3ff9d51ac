/- What functions of the program compute, as plain Lean functions, and that Go's calls come to just that: written by wip/tools/xprint.py for the law FnBars. -/
import Derived.Test.YtadloeklhjoohaaXFnBarsx0
import Derived.Test.YtadloeklhjoohaaXFnBarsx1
import Derived.Test.YtadloeklhjoohaaXFnBarsx2
import Derived.Test.YtadloeklhjoohaaXFnBarsx3
import Derived.Test.YtadloeklhjoohaaXFnBarsx4
namespace Go.Proofs.Ytadloeklhjoohaa.XFnBars
open Go.RowKit Go.Proofs.YtadloeklhjoohaaW.PrintWords Go.Proofs.YtadloeklhjoohaaW.PrintLast Go.Proofs.YtadloeklhjoohaaW.PrintMore
attribute [local go_sem] max2_int min2_int max_two min_two max_three min_three max_four min_four   -- for this text's walks alone
set_option linter.unusedVariables false
set_option linter.unusedSimpArgs false

/-! ### impl_LongFirst: function 29 -/
set_option maxHeartbeats 2000000 in
set_option maxRecDepth 100000 in
/-- Fewer than twenty: the insertion sort alone. -/
theorem slices_stableCmpFunc_int.calls (cf : Int → Int → Option Int) (k : Nat) (P0_ : Nat → Prop) (u9000_ : Value) (l0 : List Int) (r : List Int) (w0 w : World) (g_ : Nat) (lb_ : Array Value) (eg_ : ∀ args w, (callFunc g_ args).run Try.prog w = .ok (.enter g_ args) w) (HC_ : ∀ (W : World) (a b r_ : Int), Kept w W (fun k_ => P0_ k_) → cf a b = some r_ → Calls Try.prog g_ (#[.int .i64 a, .int .i64 b] ++ lb_) W fun e w' => e = .returned (.int .i64 r_) ∧ ∃ n, w' = W.drewN n) (hB : Below w0.heap.size w0 w) (ho0 : Kd.R (Kd.int .i64) 3 w w0.heap.size P0_ u9000_ l0) (hl : l0.length < 20) (h : slices_insertionSortCmpFunc_int.f cf k l0 0 (l0.length : Int) = some r) :
    Calls Try.prog 76 #[u9000_, .int .i64 (l0.length : Int), .func (.func g_) #[] lb_] w fun e w' => e = .returned (.tuple #[]) ∧ Kd.R (Kd.int .i64) 3 w' w0.heap.size (fun k_ => (P0_ k_ ∨ w.heap.size ≤ k_)) u9000_ r ∧ Below w0.heap.size w0 w' ∧ Kept w w' (fun k_ => P0_ k_) := by
  obtain ⟨A, c, rfl⟩ := Kd.R_slice ho0
  have HCALL := Aside0.mk (slices_insertionSortCmpFunc_int.calls cf k P0_ _ l0 0 (l0.length : Int) r w0 w g_ lb_ eg_ HC_ hB ho0 h)
  obtain ⟨n, hn⟩ : ∃ n_ : Int, (l0.length : Int) = n_ := ⟨_, rfl⟩
  rw [hn] at HCALL ⊢
  have c1b0 : decide ((20 : Int) ≤ n) = false := decide_eq_false (by omega)
  have c2b0 : decide ((20 : Int) < n) = false := decide_eq_false (by omega)
  clear hB ho0 h HC_ eg_
  go_enter Try.func76, Try.ntmps76
  go_wp2
  go_loopg [7, 8] 1 (fun kq v7 v8 w' => v7 = .int .i64 0 ∧ v8 = .int .i64 20 ∧ w' = w)
  case atStart => exact ⟨rfl, rfl, rfl⟩
  case round =>
    obtain ⟨rfl, rfl, rfl⟩ := hrel
    go_wp2_with fail
    refine HCALL.out.mono ?_
    rintro e w1 ⟨rfl, hr⟩
    have HR := Aside0.mk hr
    clear hr HCALL
    go_wp2
    go_loopg [6] 1 (fun kq v6 w' => v6 = .int .i64 20 ∧ w' = w1)
    case atStart => exact ⟨rfl, rfl⟩
    case round =>
      obtain ⟨rfl, rfl⟩ := hrel
      go_wp2
      go_end0
      exact ⟨rfl, HR.out⟩
set_option maxHeartbeats 2000000 in
set_option maxRecDepth 100000 in
theorem slices_SortStableFunc_int_int.calls (cf : Int → Int → Option Int) (k : Nat) (P0_ : Nat → Prop) (u9000_ : Value) (l0 : List Int) (r : List Int) (w0 w : World) (g_ : Nat) (lb_ : Array Value) (eg_ : ∀ args w, (callFunc g_ args).run Try.prog w = .ok (.enter g_ args) w) (HC_ : ∀ (W : World) (a b r_ : Int), Kept w W (fun k_ => P0_ k_) → cf a b = some r_ → Calls Try.prog g_ (#[.int .i64 a, .int .i64 b] ++ lb_) W fun e w' => e = .returned (.int .i64 r_) ∧ ∃ n, w' = W.drewN n) (hB : Below w0.heap.size w0 w) (ho0 : Kd.R (Kd.int .i64) 3 w w0.heap.size P0_ u9000_ l0) (hl : l0.length < 20) (h : slices_insertionSortCmpFunc_int.f cf k l0 0 (l0.length : Int) = some r) :
    Calls Try.prog 54 #[u9000_, .func (.func g_) #[] lb_] w fun e w' => e = .returned (.tuple #[]) ∧ Kd.R (Kd.int .i64) 3 w' w0.heap.size (fun k_ => (P0_ k_ ∨ w.heap.size ≤ k_)) u9000_ r ∧ Below w0.heap.size w0 w' ∧ Kept w w' (fun k_ => P0_ k_) := by
  obtain ⟨A, c, rfl⟩ := Kd.R_slice ho0
  have HCALL := Aside0.mk (slices_stableCmpFunc_int.calls cf k P0_ _ l0 r w0 w g_ lb_ eg_ HC_ hB ho0 hl h)
  clear hB ho0 h HC_ eg_ hl
  go_enter Try.func54, Try.ntmps54
  go_wp2_with fail
  refine HCALL.out.mono ?_
  rintro e w1 ⟨rfl, hr⟩
  have HR := Aside0.mk hr
  clear hr HCALL
  go_wp2
  go_end0
  exact ⟨rfl, HR.out⟩
/-- By how much the second one is longer. -/
def longFirst.cf (l1 : List Int) (a b : Int) : Option Int := if (0 ≤ a ∧ a < (l1.length : Int)) ∧ (0 ≤ b ∧ b < (l1.length : Int)) then some (wrap64 (rd l1 b - rd l1 a)) else none
def impl_LongFirst.f (k : Nat) (a0 : Int) (l1 : List Int) : Option (List Int) := (impl_BarsOk.f a0 l1).bind fun t => if t = true then ((impl_orderOf.f k (l1.length : Int)).bind fun out => if out.length < 20 then ((slices_insertionSortCmpFunc_int.f (longFirst.cf l1) k out 0 (out.length : Int)).bind fun o => impl_firstFit.f k a0 l1 o) else none) else some []
theorem impl_LongFirst.mono : ∀ a0 a1 k, LeO (impl_LongFirst.f k a0 a1) (impl_LongFirst.f (k + 1) a0 a1) := by
  intro a0 a1 k
  unfold impl_LongFirst.f
  refine LeO.bind (LeO.refl _) (fun _ => LeO.ite (LeO.bind (impl_orderOf.mono _ k) (fun _ => LeO.ite (LeO.bind (slices_insertionSortCmpFunc_int.mono _ _ _ _ k) (fun _ => impl_firstFit.mono _ _ _ k)) (LeO.refl _))) (LeO.refl _))
set_option maxHeartbeats 2000000 in
set_option maxRecDepth 100000 in
theorem impl_LongFirst.lit (B : Nat) (A1 : Option Addr) (c1 : Nat) (l1 : List Int) (W : World) (a b r : Int) (hbox : W.cell? ⟨B, 0, none⟩ = some (.slice A1 l1.length c1)) (hr : Kd.C (Kd.int .i64) W A1 l1.length l1) (h : longFirst.cf l1 a b = some r) :
    Calls Try.prog 65 #[.int .i64 a, .int .i64 b, .pointer (some ⟨B, 0, none⟩)] W fun e w' => e = .returned (.int .i64 r) ∧ ∃ n, w' = W.drewN n := by
  unfold longFirst.cf at h
  by_cases c : (0 ≤ a ∧ a < (l1.length : Int)) ∧ (0 ≤ b ∧ b < (l1.length : Int))
  · rw [if_pos c] at h
    obtain ⟨⟨ha0, ha1⟩, ⟨hb0, hb1⟩⟩ := c
    obtain rfl := Option.some.inj h
    obtain ⟨ad, e, hxa⟩ := Kd.at_int hr a ha0 ha1
    cases e
    obtain ⟨ad2, e, hxb⟩ := Kd.at_int hr b hb0 hb1
    cases e
    replace ha0 := eq_true ha0
    replace ha1 := eq_true ha1
    replace hb0 := eq_true hb0
    replace hb1 := eq_true hb1
    clear hr h
    go_enter Try.func65, Try.ntmps65
    go_wp2
    go_quiet (fail)
    go_wp2
    go_ret
    exact ⟨rfl, _, rfl⟩
  · rw [if_neg c] at h
    exact absurd h (by simp)
set_option maxHeartbeats 4000000 in
set_option maxRecDepth 100000 in
theorem impl_LongFirst.calls (k : Nat) (a0 : Int) (A1 : Option Addr) (c1 : Nat) (l1 : List Int) (r : List Int) (w : World) (hr1 : Kd.C (Kd.int .i64) w A1 l1.length l1) (hc1 : l1.length ≤ c1) (h : impl_LongFirst.f k a0 l1 = some r) :
    Calls Try.prog 29 #[.int .i64 a0, .slice A1 l1.length c1] w fun e w' => ∃ v0_ : Value, e = .returned (v0_) ∧ Kd.R (Kd.int .i64) 3 w' w.heap.size (fun _ => True) v0_ r ∧ Below w.heap.size w w' := by
  obtain ⟨t, ht, h⟩ := Option.bind_eq_some_iff.mp h
  have HT := Aside0.mk ht
  have HR := Aside0.mk hr1
  have HC := Aside0.mk hc1
  obtain ⟨w1, hw1⟩ : ∃ w1 : World, w.alloc (.cells #[.slice A1 l1.length c1] 27 (0, 0)) = w1 := ⟨_, rfl⟩
  have HB1 := Aside0.mk (show Below w.heap.size w w1 by rw [← hw1]; exact below_alloc (Below.refl _ _) _)
  have HBX := Aside0.mk (show w1.heap[w.heap.size]? = some (.cells #[.slice A1 l1.length c1] 27 (0, 0)) by rw [← hw1]; show (w.heap.push _)[w.heap.size]? = _; simp)
  have HW1 := Aside0.mk hw1
  have hbox := cell_of_one HBX.out
  clear ht hr1 hc1 hw1
  go_enter Try.func29, Try.ntmps29
  go_wp2_with fail
  rw [HW1.out]
  go_wp2_with fail
  refine (impl_BarsOk.calls a0 A1 c1 l1 t w1 (Kd.C_below HR.out HB1.out) HC.out HT.out).mono ?_
  rintro e w2 ⟨rfl, hb⟩
  have HB := Aside0.mk hb
  have HBX2 := Aside0.mk ((hb.block _ (lt_of_block HBX.out)).trans HBX.out)
  have hbox2 := cell_of_one HBX2.out
  clear hb hbox
  cases t with
  | false =>
    obtain rfl := Option.some.inj (show some [] = some r from h)
    clear h
    go_wp2
    go_ret
    exact ⟨_, rfl, Kd.R_nil _ _ _ _ _, HB1.out.trans (HB.out.mono HB1.out.size)⟩
  | true =>
    replace h : ((impl_orderOf.f k (l1.length : Int)).bind fun out => if out.length < 20 then ((slices_insertionSortCmpFunc_int.f (longFirst.cf l1) k out 0 (out.length : Int)).bind fun o => impl_firstFit.f k a0 l1 o) else none) = some r := h
    obtain ⟨out, ho1, h⟩ := Option.bind_eq_some_iff.mp h
    by_cases hl : out.length < 20
    · rw [if_pos hl] at h
      obtain ⟨o, hso, hff⟩ := Option.bind_eq_some_iff.mp h
      have HO1 := Aside0.mk ho1
      have HL := Aside0.mk hl
      have HSO := Aside0.mk hso
      have HFF := Aside0.mk hff
      clear ho1 h hl hso hff
      go_wp2_with fail
      refine (impl_orderOf.calls k (l1.length : Int) out w2 HO1.out).mono ?_
      rintro e w3 ⟨v3, rfl, hr3, hb3⟩
      have HR3 := Aside0.mk (Kd.R_lower hr3 (below_size HB.out))
      have HB3 := Aside0.mk (below_step HB.out hb3)
      have HBX3 := Aside0.mk ((hb3.block _ (lt_of_block HBX2.out)).trans HBX2.out)
      have hbox3 := cell_of_one HBX3.out
      clear hr3 hb3 hbox2
      have HLT := Aside0.mk (lt_of_block HBX.out)
      go_wp2_with fail
      refine (slices_SortStableFunc_int_int.calls (longFirst.cf l1) k (fun k_ => w1.heap.size ≤ k_) v3 out o w1 w3 65 #[.pointer (some ⟨w.heap.size, 0, none⟩)] (enters_of Try.func65 (by kernel_rfl) rfl) (fun W a b r_ hk hcf => ?_) HB3.out (Kd.R_mono (Kd.R_bound HR3.out) (fun k hk => hk.2.1)) HL.out HSO.out).mono ?_
      · have hlt := HLT.out
        have hsz := HB3.out.size
        have hbx : W.heap[w.heap.size]? = some (.cells #[.slice A1 l1.length c1] 27 (0, 0)) := (hk.2 w.heap.size (by omega) (by omega)).trans ((HB3.out.block _ hlt).trans HBX.out)
        exact impl_LongFirst.lit w.heap.size A1 c1 l1 W a b r_ (cell_of_one hbx) (Kd.Heap.C (Kd.heap_int _) (fun j hj => (hk.2 j (by omega) (by omega)).trans ((HB3.out.block j (by omega)).trans (HB1.out.block j hj))) HR.out) hcf
      · rintro e w5 ⟨rfl, hr5, hb5, hk5⟩
        have HR5 := Aside0.mk hr5
        have HB5 := Aside0.mk hb5
        have HBX5 := Aside0.mk ((hb5.block _ HLT.out).trans HBX.out)
        have hbox5 := cell_of_one HBX5.out
        obtain ⟨A3, c3, eo3, hc3, hr3⟩ := Kd.R_reads HR5.out
        subst eo3
        have HC3 := Aside0.mk hc3
        have HR3' := Aside0.mk hr3
        clear hr5 hb5 hk5 hbox3 hc3 hr3
        go_wp2_with fail
        refine (impl_firstFit.calls k a0 A1 c1 l1 A3 c3 o r w5 (Kd.C_below (Kd.C_below HR.out HB1.out) (Below.mono HB5.out (Nat.le_refl _))) HC.out HR3'.out HC3.out HFF.out).mono ?_
        rintro e w6 ⟨v6, rfl, hr6, hb6⟩
        have HR6 := Aside0.mk hr6
        have HB6 := Aside0.mk hb6
        clear hr6 hb6 hbox5
        go_wp2
        go_ret
        exact ⟨_, rfl, Kd.R_lower HR6.out (Nat.le_trans HB1.out.size HB5.out.size), below_step (HB1.out.trans (HB5.out.mono HB1.out.size)) HB6.out⟩
    · rw [if_neg hl] at h
      exact absurd h (by simp)

/-! ### impl_bestBars: function 66 -/
/-! bestBars: a search over plans by a closure that calls itself through its variable -/
mutual
def bbs.put : Nat → Int → List Int → Int → List Int → List Int → Option (Bool × List Int × List Int)
  | 0, _, _, _, _, _ => none
  | k + 1, bar, ps, m, pl, su => if pl.length < 100 ∧ su.length < 100 then (if pl.length = ps.length then some (true, pl, su) else (if pl.length < ps.length then bbs.lp k bar ps m pl su (rd ps (pl.length : Int)) 0 else none)) else none
def bbs.lp : Nat → Int → List Int → Int → List Int → List Int → Int → Int → Option (Bool × List Int × List Int)
  | 0, _, _, _, _, _, _, _ => none
  | k + 1, bar, ps, m, pl, su, p, kk => if pl.length < 100 ∧ su.length < 100 then (if kk ≤ (su.length : Int) then (if kk < m then (if kk = (su.length : Int) then bbs.st k bar ps m pl (su ++ [0]) p kk else bbs.st k bar ps m pl su p kk) else some (false, pl, su)) else some (false, pl, su)) else none
def bbs.st : Nat → Int → List Int → Int → List Int → List Int → Int → Int → Option (Bool × List Int × List Int)
  | 0, _, _, _, _, _, _, _ => none
  | k + 1, bar, ps, m, pl, su, p, kk => if 0 ≤ kk ∧ kk < (su.length : Int) then (if wrap64 (rd su kk + p) ≤ bar then ((bbs.put k bar ps m (pl ++ [kk]) (su.set kk.toNat (wrap64 (rd su kk + p)))).bind fun t => if t.1 = true then some (true, t.2.1, t.2.2) else (if 0 < t.2.1.length ∧ kk < (t.2.2.length : Int) ∧ t.2.1.length < 1000 then bbs.fin k bar ps m (t.2.1.take (t.2.1.length - 1)) (t.2.2.set kk.toNat (wrap64 (rd t.2.2 kk - p))) p kk else none)) else bbs.fin k bar ps m pl su p kk) else none
def bbs.fin : Nat → Int → List Int → Int → List Int → List Int → Int → Int → Option (Bool × List Int × List Int)
  | 0, _, _, _, _, _, _, _ => none
  | k + 1, bar, ps, m, pl, su, p, kk => if 0 ≤ kk ∧ kk < (su.length : Int) then (if rd su kk = 0 then some (false, pl, su.take kk.toNat) else bbs.lp k bar ps m pl su p (wrap64 (kk + 1))) else none
end
structure BbI (w0 W : World) (bp bq bs bm bb bf : Nat) (vq vf : Value) (m bar : Int) (vp vs : Value) (pl su : List Int) : Prop where
  p : Kd.R (Kd.int .i64) 3 W w0.heap.size (fun k => (some k ≠ vs.ownBlock ∧ k ≠ bm) ∧ k ≠ bb) vp pl
  s : Kd.R (Kd.int .i64) 3 W w0.heap.size (fun k => (some k ≠ vp.ownBlock ∧ k ≠ bm) ∧ k ≠ bb) vs su
  cp : W.heap[bp]? = some (.cells #[vp] 27 (0, 0))
  cq : W.heap[bq]? = some (.cells #[vq] 27 (0, 0))
  cs : W.heap[bs]? = some (.cells #[vs] 27 (0, 0))
  cm : W.heap[bm]? = some (.cells #[.int .i64 m] 3 (0, 0))
  cb : W.heap[bb]? = some (.cells #[.int .i64 bar] 3 (0, 0))
  cf : W.heap[bf]? = some (.cells #[vf] 92 (0, 0))
  b : Below w0.heap.size w0 W
  ne : (bp ≠ bq ∧ bp ≠ bs) ∧ bs ≠ bq ∧ w0.heap.size ≤ bp ∧ w0.heap.size ≤ bs
section
variable {w0 W W' : World} {bp bq bs bm bb bf : Nat} {vq vf : Value} {m bar : Int} {vp vs : Value} {pl su : List Int}
theorem BbI.swap (h : BbI w0 W bp bq bs bm bb bf vq vf m bar vp vs pl su) : BbI w0 W bs bq bp bm bb bf vq vf m bar vs vp su pl :=
  ⟨h.s, h.p, h.cs, h.cq, h.cp, h.cm, h.cb, h.cf, h.b, ⟨h.ne.2.1, fun e => h.ne.1.2 e.symm⟩, h.ne.1.1, h.ne.2.2.2, h.ne.2.2.1⟩
theorem bb_lt {b : Nat} {o : Obj} (h : W.heap[b]? = some o) : b < W.heap.size := (Array.getElem?_eq_some_iff.1 h).1
theorem BbI.below (h : BbI w0 W bp bq bs bm bb bf vq vf m bar vp vs pl su) (hb : Below W.heap.size W W') : BbI w0 W' bp bq bs bm bb bf vq vf m bar vp vs pl su :=
  ⟨Kd.R_below h.p hb, Kd.R_below h.s hb, (hb.block _ (bb_lt h.cp)).trans h.cp, (hb.block _ (bb_lt h.cq)).trans h.cq, (hb.block _ (bb_lt h.cs)).trans h.cs, (hb.block _ (bb_lt h.cm)).trans h.cm, (hb.block _ (bb_lt h.cb)).trans h.cb, (hb.block _ (bb_lt h.cf)).trans h.cf, below_step h.b hb, h.ne⟩
theorem bb_cell {b t : Nat} {v : Value} (h : W.heap[b]? = some (.cells #[v] t (0, 0))) : W.cell? ⟨b, 0, none⟩ = some v ∧ W.frozen? ⟨b, 0, none⟩ = false := by
  refine ⟨by simp [World.cell?, h], by simp [World.frozen?, h]⟩
theorem bb_ne {a b t t' : Nat} {cs cs' : Array Value} (h : W.heap[a]? = some (.cells cs t (0, 0))) (h' : W.heap[b]? = some (.cells cs' t' (0, 0))) (ht : t ≠ t') : a ≠ b := by
  intro e
  subst e
  rw [h] at h'
  injection h' with h'
  injection h' with _ h'
  exact ht h'
/-- Blocks that are not the row's own stay, the row's value is stored. -/
theorem BbI.storeP (h : BbI w0 W bp bq bs bm bb bf vq vf m bar vp vs pl su) {W2 : World} {v1 : Value} {pl1 : List Int}
    (hr : Kd.R (Kd.int .i64) 3 W2 w0.heap.size (fun k => (some k ≠ vs.ownBlock ∧ k ≠ bm) ∧ k ≠ bb) v1 pl1) (ho : ∀ b, b < W.heap.size → some b ≠ vp.ownBlock → W2.heap[b]? = W.heap[b]?)
    (hv : v1.ownBlock = vp.ownBlock ∨ ∃ b, v1.ownBlock = some b ∧ W.heap.size ≤ b) (hb : Below w0.heap.size w0 W2) : BbI w0 (W2.setCell ⟨bp, 0, none⟩ v1) bp bq bs bm bb bf vq vf m bar v1 vs pl1 su := by
  have ty := Kd.R_typed h.p
  have other : ∀ {b t : Nat} {cs : Array Value}, W.heap[b]? = some (.cells cs t (0, 0)) → t ≠ 3 → W2.heap[b]? = some (.cells cs t (0, 0)) := fun {b t cs} hc ht => (ho b (bb_lt hc) (fun e => by
    obtain ⟨cs', hcs'⟩ := ty b e.symm
    exact bb_ne hc hcs' ht rfl)).trans hc
  have e2 := other h.cp (by decide)
  have set : ∀ {b : Nat}, b ≠ bp → (W2.setCell ⟨bp, 0, none⟩ v1).heap[b]? = W2.heap[b]? := fun {b} hne => Below.heap_setCell W2 ⟨bp, 0, none⟩ v1 b hne
  have cm2 : W2.heap[bm]? = some (.cells #[.int .i64 m] 3 (0, 0)) := (ho bm (bb_lt h.cm) (fun e => (h.p.1 bm e.symm).1.2 rfl)).trans h.cm
  have cb2 : W2.heap[bb]? = some (.cells #[.int .i64 bar] 3 (0, 0)) := (ho bb (bb_lt h.cb) (fun e => (h.p.1 bb e.symm).2 rfl)).trans h.cb
  have hs2 : Kd.R (Kd.int .i64) 3 W2 w0.heap.size (fun k => (some k ≠ vp.ownBlock ∧ k ≠ bm) ∧ k ≠ bb) vs su := Kd.R_step h.s (fun k hk hlt => ho k hlt hk.1.1)
  refine ⟨Kd.R_set hr e2 (by decide) 0 v1, ?_, ?_, (set (fun e => h.ne.1.1 e.symm)).trans (other h.cq (by decide)), (set (fun e => h.ne.1.2 e.symm)).trans (other h.cs (by decide)), (set (bb_ne h.cm h.cp (by decide))).trans cm2, (set (bb_ne h.cb h.cp (by decide))).trans cb2, (set (bb_ne h.cf h.cp (by decide))).trans (other h.cf (by decide)), below_set hb h.ne.2.2.1, h.ne⟩
  · refine Kd.R_set (Kd.R_reok rfl hs2 (fun k hk => ?_)) e2 (by decide) 0 v1
    have h1 := h.s.1 k hk
    refine ⟨⟨fun e => ?_, h1.1.2⟩, h1.2⟩
    rcases hv with hv | ⟨b, hv, hlt⟩
    · exact h1.1.1 (e.trans hv)
    · have e3 : k = b := Option.some.inj (e.trans hv)
      obtain ⟨cs', hcs'⟩ := Kd.R_typed h.s k hk
      have := bb_lt hcs'
      omega
  · show (W2.heap.modify bp _)[bp]? = _
    rw [Array.getElem?_modify, if_pos rfl, e2]
    rfl
theorem BbI.storeS (h : BbI w0 W bp bq bs bm bb bf vq vf m bar vp vs pl su) {W2 : World} {v1 : Value} {su1 : List Int}
    (hr : Kd.R (Kd.int .i64) 3 W2 w0.heap.size (fun k => (some k ≠ vp.ownBlock ∧ k ≠ bm) ∧ k ≠ bb) v1 su1) (ho : ∀ b, b < W.heap.size → some b ≠ vs.ownBlock → W2.heap[b]? = W.heap[b]?)
    (hv : v1.ownBlock = vs.ownBlock ∨ ∃ b, v1.ownBlock = some b ∧ W.heap.size ≤ b) (hb : Below w0.heap.size w0 W2) : BbI w0 (W2.setCell ⟨bs, 0, none⟩ v1) bp bq bs bm bb bf vq vf m bar vp v1 pl su1 :=
  (h.swap.storeP hr ho hv hb).swap
/-- A number is put into the second row. -/
theorem BbI.setS {g n cap : Nat} (h : BbI w0 W bp bq bs bm bb bf vq vf m bar vp (.slice (some ⟨g, 0, none⟩) n cap) pl su) (i u : Int) : BbI w0 (W.setCell ⟨g, i.toNat, none⟩ (.int .i64 u)) bp bq bs bm bb bf vq vf m bar vp (.slice (some ⟨g, 0, none⟩) n cap) pl (su.set i.toNat u) := by
  obtain ⟨cs, hg⟩ := Kd.R_typed h.s g rfl
  have hok := h.s.1 g rfl
  have set : ∀ {b : Nat}, b ≠ g → (W.setCell ⟨g, i.toNat, none⟩ (.int .i64 u)).heap[b]? = W.heap[b]? := fun {b} hne => Below.heap_setCell W ⟨g, i.toNat, none⟩ _ b hne
  exact ⟨Kd.R_step h.p (fun k hk _ => set (fun e => hk.1.1 (by rw [e]; rfl))), (Kd.R_putg h.s i u).1, (set (bb_ne h.cp hg (by decide))).trans h.cp, (set (bb_ne h.cq hg (by decide))).trans h.cq, (set (bb_ne h.cs hg (by decide))).trans h.cs, (set (fun e => hok.1.2 e.symm)).trans h.cm, (set (fun e => hok.2 e.symm)).trans h.cb, (set (bb_ne h.cf hg (by decide))).trans h.cf, below_set h.b (Kd.R_base h.s g rfl), h.ne⟩
theorem BbI.boxS (h : BbI w0 W bp bq bs bm bb bf vq vf m bar vp vs pl su) (hg : W.grownBy W' vs.ownBlock) : W'.heap[bs]? = some (.cells #[vs] 27 (0, 0)) :=
  (hg.block bs (bb_lt h.cs) (fun e => by
    obtain ⟨cs', hcs'⟩ := Kd.R_typed h.s bs e.symm
    exact bb_ne h.cs hcs' (by decide) rfl)).trans h.cs
theorem BbI.boxP (h : BbI w0 W bp bq bs bm bb bf vq vf m bar vp vs pl su) (hg : W.grownBy W' vp.ownBlock) : W'.heap[bp]? = some (.cells #[vp] 27 (0, 0)) := h.swap.boxS hg
theorem BbI.fresh (h : BbI w0 W bp bq bs bm bb bf vq vf m bar vp vs pl su) : ∀ k, W.heap.size ≤ k → (some k ≠ vp.ownBlock ∧ k ≠ bm) ∧ k ≠ bb := fun k hk => by
  have h1 := bb_lt h.cm
  have h2 := bb_lt h.cb
  refine ⟨⟨fun e => ?_, by omega⟩, by omega⟩
  obtain ⟨cs', hcs'⟩ := Kd.R_typed h.p k e.symm
  have := bb_lt hcs'
  omega
end
theorem bbs.mono_l : ∀ k, (∀ y0 y1 y2 y3 y4, LeO (bbs.put k y0 y1 y2 y3 y4) (bbs.put (k + 1) y0 y1 y2 y3 y4)) ∧ (∀ y0 y1 y2 y3 y4 y5 y6, LeO (bbs.lp k y0 y1 y2 y3 y4 y5 y6) (bbs.lp (k + 1) y0 y1 y2 y3 y4 y5 y6)) ∧ (∀ y0 y1 y2 y3 y4 y5 y6, LeO (bbs.st k y0 y1 y2 y3 y4 y5 y6) (bbs.st (k + 1) y0 y1 y2 y3 y4 y5 y6)) ∧ (∀ y0 y1 y2 y3 y4 y5 y6, LeO (bbs.fin k y0 y1 y2 y3 y4 y5 y6) (bbs.fin (k + 1) y0 y1 y2 y3 y4 y5 y6))
  | 0 => ⟨fun _ _ _ _ _ r h => by simp [bbs.put] at h, fun _ _ _ _ _ _ _ r h => by simp [bbs.lp] at h, fun _ _ _ _ _ _ _ r h => by simp [bbs.st] at h, fun _ _ _ _ _ _ _ r h => by simp [bbs.fin] at h⟩
  | k + 1 => by
    obtain ⟨ih0, ih1, ih2, ih3⟩ := bbs.mono_l k
    refine ⟨?_, ?_, ?_, ?_⟩
    · intro y0 y1 y2 y3 y4
      unfold bbs.put
      repeat' first
        | (with_reducible exact ih0 _ _ _ _ _)
        | (with_reducible exact ih1 _ _ _ _ _ _ _)
        | (with_reducible exact ih2 _ _ _ _ _ _ _)
        | (with_reducible exact ih3 _ _ _ _ _ _ _)
        | (with_reducible exact LeO.refl _)
        | (with_reducible exact LeO.none _)
        | (with_reducible refine LeO.ite ?_ ?_)
        | (with_reducible refine LeO.bind ?_ (fun _ => ?_))
    · intro y0 y1 y2 y3 y4 y5 y6
      unfold bbs.lp
      repeat' first
        | (with_reducible exact ih0 _ _ _ _ _)
        | (with_reducible exact ih1 _ _ _ _ _ _ _)
        | (with_reducible exact ih2 _ _ _ _ _ _ _)
        | (with_reducible exact ih3 _ _ _ _ _ _ _)
        | (with_reducible exact LeO.refl _)
        | (with_reducible exact LeO.none _)
        | (with_reducible refine LeO.ite ?_ ?_)
        | (with_reducible refine LeO.bind ?_ (fun _ => ?_))
    · intro y0 y1 y2 y3 y4 y5 y6
      unfold bbs.st
      repeat' first
        | (with_reducible exact ih0 _ _ _ _ _)
        | (with_reducible exact ih1 _ _ _ _ _ _ _)
        | (with_reducible exact ih2 _ _ _ _ _ _ _)
        | (with_reducible exact ih3 _ _ _ _ _ _ _)
        | (with_reducible exact LeO.refl _)
        | (with_reducible exact LeO.none _)
        | (with_reducible refine LeO.ite ?_ ?_)
        | (with_reducible refine LeO.bind ?_ (fun _ => ?_))
    · intro y0 y1 y2 y3 y4 y5 y6
      unfold bbs.fin
      repeat' first
        | (with_reducible exact ih0 _ _ _ _ _)
        | (with_reducible exact ih1 _ _ _ _ _ _ _)
        | (with_reducible exact ih2 _ _ _ _ _ _ _)
        | (with_reducible exact ih3 _ _ _ _ _ _ _)
        | (with_reducible exact LeO.refl _)
        | (with_reducible exact LeO.none _)
        | (with_reducible refine LeO.ite ?_ ?_)
        | (with_reducible refine LeO.bind ?_ (fun _ => ?_))
def bbF (bp bq bs bm bb bf : Nat) : Value := .func (.func 80) #[] #[.pointer (some ⟨bp, 0, none⟩), .pointer (some ⟨bq, 0, none⟩), .pointer (some ⟨bs, 0, none⟩), .pointer (some ⟨bm, 0, none⟩), .pointer (some ⟨bb, 0, none⟩), .pointer (some ⟨bf, 0, none⟩)]
set_option maxHeartbeats 8000000 in
set_option maxRecDepth 100000 in
theorem bbs.calls (k : Nat) : ∀ (w0 : World) (bp bq bs bm bb bf : Nat) (A1 : Option Addr) (c1 : Nat) (l1 : List Int) (m bar : Int) (_hr1 : Kd.C (Kd.int .i64) w0 A1 l1.length l1) (_hc1 : l1.length ≤ c1) (W : World) (vp vs : Value) (pl su : List Int) (b : Bool) (pl' su' : List Int) (_hI : BbI w0 W bp bq bs bm bb bf (.slice A1 l1.length c1) (bbF bp bq bs bm bb bf) m bar vp vs pl su) (_h : bbs.put k bar l1 m pl su = some (b, pl', su')),
    Calls Try.prog 80 #[.pointer (some ⟨bp, 0, none⟩), .pointer (some ⟨bq, 0, none⟩), .pointer (some ⟨bs, 0, none⟩), .pointer (some ⟨bm, 0, none⟩), .pointer (some ⟨bb, 0, none⟩), .pointer (some ⟨bf, 0, none⟩)] W fun e w' => e = .returned (.bool b) ∧ ∃ vp' vs', BbI w0 w' bp bq bs bm bb bf (.slice A1 l1.length c1) (bbF bp bq bs bm bb bf) m bar vp' vs' pl' su' := by
  induction k using Nat.strongRecOn with
  | _ k ih =>
  intro w0 bp bq bs bm bb bf A1 c1 l1 m bar hr1 hc1 W vp vs pl su b pl' su' hI h
  cases k with
  | zero => exact absurd h (by simp [bbs.put])
  | succ k =>
  simp only [bbs.put] at h
  have IH := Aside0.mk ih
  have HR := Aside0.mk hr1
  have HC := Aside0.mk hc1
  have HI := Aside0.mk hI
  clear ih hr1 hc1 hI
  by_cases cl : pl.length < 100 ∧ su.length < 100
  · rw [if_pos cl] at h
    obtain ⟨Ap, cp_, ep⟩ := Kd.R_slice HI.out.p
    obtain ⟨As, cs_, es⟩ := Kd.R_slice HI.out.s
    subst ep
    subst es
    obtain ⟨hxp, hfp⟩ := bb_cell HI.out.cp
    obtain ⟨hxq, _⟩ := bb_cell HI.out.cq
    have HCL := Aside0.mk cl
    clear cl
    by_cases c2 : pl.length = l1.length
    · rw [if_pos c2] at h
      simp only [Option.some.injEq, Prod.mk.injEq] at h
      obtain ⟨rfl, rfl, rfl⟩ := h
      have c2b0 : ((pl.length : Int) == (l1.length : Int)) = true := beq_iff_eq.mpr (by omega)
      clear c2
      go_enter Try.func80, Try.ntmps80
      go_wp2
      go_ret
      exact ⟨rfl, _, _, HI.out⟩
    · rw [if_neg c2] at h
      have c2b0 : ((pl.length : Int) == (l1.length : Int)) = false := beq_eq_false_iff_ne.mpr (by omega)
      by_cases c3 : pl.length < l1.length
      · rw [if_pos c3] at h
        obtain ⟨ad, ed, hx⟩ := Kd.at_int (Kd.C_below HR.out HI.out.b) (pl.length : Int) (by omega) (by omega)
        cases ed
        have c3b0 : (0 ≤ (pl.length : Int)) = True := eq_true (by omega)
        have c3b1 : ((pl.length : Int) < (l1.length : Int)) = True := eq_true (by omega)
        obtain ⟨p, hp⟩ : ∃ p_, rd l1 (pl.length : Int) = p_ := ⟨_, rfl⟩
        rw [hp] at h hx
        rw [Int.toNat_natCast] at hx
        have HP := Aside0.mk hp
        have H' := Aside0.mk h
        clear h hp c2
        go_enter Try.func80, Try.ntmps80
        go_wp2
        skip
        go_loopg [8] k (fun kq v8 w' => ∃ (kk : Int) (vp vs : Value) (pl su : List Int), v8 = .int .i64 kk ∧ Aside0 (bbs.lp kq bar l1 m pl su p kk = some (b, pl', su')) ∧ Aside0 (kq ≤ k) ∧ Aside0 (BbI w0 w' bp bq bs bm bb bf (.slice (some ad) l1.length c1) (bbF bp bq bs bm bb bf) m bar vp vs pl su))
        case atStart => exact ⟨0, _, _, pl, su, rfl, H', ⟨Nat.le_refl _⟩, HI⟩
        case round =>
          clear H' hx hxp hfp hxq HI HCL c3b0 c3b1 c2b0
          obtain ⟨kk, vp, vs, pl, su, rfl, HA, HK1, HI⟩ := hrel
          cases gk with
          | zero => exact absurd HA.out (by simp [bbs.lp])
          | succ k1 =>
            have H := HA.out
            clear HA
            simp only [bbs.lp] at H
            by_cases cl : pl.length < 100 ∧ su.length < 100
            · rw [if_pos cl] at H
              obtain ⟨Ap, cp_, ep⟩ := Kd.R_slice HI.out.p
              obtain ⟨As, cs_, es⟩ := Kd.R_slice HI.out.s
              subst ep
              subst es
              have HCL := Aside0.mk cl
              clear cl
              obtain ⟨hxs, hfs⟩ := bb_cell HI.out.cs
              obtain ⟨hxm, _⟩ := bb_cell HI.out.cm
              by_cases c4 : kk ≤ (su.length : Int)
              · rw [if_pos c4] at H
                have c4b0 : decide (kk ≤ (su.length : Int)) = true := decide_eq_true c4
                by_cases c5 : kk < m
                · rw [if_pos c5] at H
                  have c5b0 : decide (kk < m) = true := decide_eq_true c5
                  have H' := Aside0.mk H
                  clear H
                  go_upto_if 33 with (fail)
                  go_cut [8] (fun v8 wc => ∃ (kq : Nat) (vs : Value) (su : List Int), v8 = .int .i64 kk ∧ Aside0 (bbs.st kq bar l1 m pl su p kk = some (b, pl', su')) ∧ Aside0 (kq ≤ k1) ∧ Aside0 (su.length < 101) ∧ Aside0 (BbI w0 wc bp bq bs bm bb bf (.slice (some ad) l1.length c1) (bbF bp bq bs bm bb bf) m bar (.slice Ap pl.length cp_) vs pl su))
                  case first =>
                    have H := H'.out
                    clear H'
                    by_cases c6 : kk = (su.length : Int)
                    · rw [if_pos c6] at H
                      have c6b0 : (kk == (su.length : Int)) = true := beq_iff_eq.mpr c6
                      rw [c6b0]
                      have H' := Aside0.mk H
                      clear H c6
                      go_wp2_with (first | ((with_reducible refine gate_builtin (b := .append) (xs := #[.tmp 34, .tmp 35]) rfl ?_); at_builtin; refine Kd.R_append (Kd.int .i64) (w0 := w0) w0.heap.size rfl (.tmp 34) (.tmp 35) 27 3 (.int .i64 0) 8 rfl Try.underlying27 info3 rfl (by decide) (by omega) (.slice As su.length cs_) su 0 [.int .i64 0] (fun k => (some k ≠ (Value.slice Ap pl.length cp_).ownBlock ∧ k ≠ bm) ∧ k ≠ bb) (fun _ => False) rfl rfl ?aP (fun _ hk => hk.elim) ?aF ?aO ?aB ?aS ?aL ?_; (case aP => exact rfl); (case aF => exact HI.out.fresh); (case aO => exact HI.out.s); (case aB => exact HI.out.b); (case aS => exact HI.out.b.size); (case aL => have := HCL.out; omega); intro v1 w1 ho hb hg hat; obtain ⟨Av1, cv1, ev1⟩ := Kd.R_slice ho; subst ev1; obtain ⟨hx1, hf1⟩ := bb_cell (HI.out.boxS hg); have HS := Aside0.mk (HI.out.storeS ho (fun b_ h1_ h2_ => hg.block b_ h1_ h2_) hat hb); clear ho hb hg hat))
                      go_meet
                      case rel => exact ⟨_, _, su ++ [0], rfl, H', ⟨Nat.le_refl _⟩, ⟨by have := HCL.out; rw [List.length_append]; simp; omega⟩, (by have e := HS; simp only [List.length_append, List.length_singleton] at e; exact e)⟩
                    · rw [if_neg c6] at H
                      have c6b0 : (kk == (su.length : Int)) = false := beq_eq_false_iff_ne.mpr c6
                      rw [c6b0]
                      have H' := Aside0.mk H
                      clear H c6
                      go_wp2
                      go_meet
                      case rel => exact ⟨_, _, su, rfl, H', ⟨Nat.le_refl _⟩, ⟨by have := HCL.out; omega⟩, HI⟩
                  case rest =>
                    clear H' HI hxs hfs hxm c4b0 c5b0 c4 c5
                    have HPL := Aside0.mk (show pl.length < 100 from HCL.out.1)
                    clear HCL
                    obtain ⟨kq, vs, su, rfl, HA, HK2, HSL, HI⟩ := hcut
                    cases kq with
                    | zero => exact absurd HA.out (by simp [bbs.st])
                    | succ k2 =>
                      have H := HA.out
                      clear HA
                      simp only [bbs.st] at H
                      by_cases c7 : 0 ≤ kk ∧ kk < (su.length : Int)
                      · rw [if_pos c7] at H
                        obtain ⟨c7a, c7b⟩ := c7
                        have HC7 := Aside0.mk (And.intro c7a c7b)
                        obtain ⟨gs, cs_, es, _, _, _, _⟩ := Kd.R_form HI.out.s (by omega)
                        subst es
                        obtain ⟨hxs, hfs⟩ := bb_cell HI.out.cs
                        obtain ⟨hxb, _⟩ := bb_cell HI.out.cb
                        obtain ⟨hx, _⟩ := Kd.R_celln 0 HI.out.s kk c7a c7b
                        replace hx : wc.cell? ⟨gs, kk.toNat, none⟩ = some (.int .i64 (rd su kk)) := hx
                        obtain ⟨u, hu⟩ : ∃ u_, rd su kk = u_ := ⟨_, rfl⟩
                        rw [hu] at H hx
                        have HU := Aside0.mk hu
                        clear hu
                        have c7b0 := eq_true c7a
                        have c7b1 := eq_true c7b
                        by_cases c8 : wrap64 (u + p) ≤ bar
                        · rw [if_pos c8] at H
                          have c8b0 : decide (wrap64 (u + p) ≤ bar) = true := decide_eq_true c8
                          have H' := Aside0.mk H
                          clear H c8 c7a c7b
                          go_wp2
                          go_quiet (fail)
                          go_upto_region 10 with (fail)
                          have HI4 := Aside0.mk (HI.out.below (pw_below_drewN (Below.refl _ _) nq))
                          clear HI hxs hfs hxb hx
                          generalize wc.drewN nq = wq at HI4 ⊢
                          obtain ⟨hxs, hfs⟩ := bb_cell HI4.out.cs
                          obtain ⟨hx, hf⟩ := Kd.R_celln 0 HI4.out.s kk HC7.out.1 HC7.out.2
                          replace hx : wq.cell? ⟨gs, kk.toNat, none⟩ = some (.int .i64 (rd su kk)) := hx
                          rw [HU.out] at hx
                          have HI5 := Aside0.mk (HI4.out.setS kk (wrap64 (u + p)))
                          go_upto_region 11 with (fail)
                          clear hxs hfs hx hf HI4
                          generalize wq.setCell ⟨gs, kk.toNat, none⟩ (.int .i64 (wrap64 (u + p))) = wr at HI5 ⊢
                          obtain ⟨su5, hsu5⟩ : ∃ su_, su.set kk.toNat (wrap64 (u + p)) = su_ := ⟨_, rfl⟩
                          have HSU := Aside0.mk (show su5.length = su.length by rw [← hsu5, List.length_set])
                          have HH := H'.out
                          rw [hsu5] at HH HI5
                          obtain ⟨⟨b2, pl2, su2⟩, hput, HH⟩ := Option.bind_eq_some_iff.mp HH
                          have HPUT := Aside0.mk hput
                          have H'' := Aside0.mk HH
                          clear H' HH hput hsu5
                          obtain ⟨hxp, hfp⟩ := bb_cell HI5.out.cp
                          go_upto_region 12 with (first | ((with_reducible refine gate_builtin (b := .append) (xs := #[.tmp 52, .tmp 54]) rfl ?_); at_builtin; refine Kd.R_append (Kd.int .i64) (w0 := w0) w0.heap.size rfl (.tmp 52) (.tmp 54) 27 3 (.int .i64 0) 8 rfl Try.underlying27 info3 rfl (by decide) (by omega) (.slice Ap pl.length cp_) pl kk [.int .i64 kk] (fun k => (some k ≠ (Value.slice (some ⟨gs, 0, none⟩) su.length cs_).ownBlock ∧ k ≠ bm) ∧ k ≠ bb) (fun _ => False) rfl rfl ?aP (fun _ hk => hk.elim) ?aF ?aO ?aB ?aS ?aL ?_; (case aP => exact rfl); (case aF => exact HI5.out.swap.fresh); (case aO => exact HI5.out.p); (case aB => exact HI5.out.b); (case aS => exact HI5.out.b.size); (case aL => have := HPL.out; omega); intro v1 w1 ho hb hg hat; obtain ⟨Av1, cv1, ev1⟩ := Kd.R_slice ho; subst ev1; obtain ⟨hx1, hf1⟩ := bb_cell (HI5.out.boxP hg); have HS := Aside0.mk (HI5.out.storeP ho (fun b_ h1_ h2_ => hg.block b_ h1_ h2_) hat hb); clear ho hb hg hat))
                          have HI6 := Aside0.mk (by have e := HS.out; simp only [List.length_append, List.length_singleton] at e; exact e)
                          clear HS hx1 hf1 hxp hfp HI5
                          generalize (w1.setCell ⟨bp, 0, none⟩ (.slice Av1 (pl.length + 1) cv1)) = w6 at HI6 ⊢
                          obtain ⟨hxf, _⟩ := bb_cell HI6.out.cf
                          unfold bbF at hxf
                          go_wp2_with fail
                          refine (IH.out k2 (by have := HK1.out; have := HK2.out; omega) w0 bp bq bs bm bb bf (some ad) c1 l1 m bar HR.out HC.out w6 _ _ _ _ b2 pl2 su2 HI6.out HPUT.out).mono ?_
                          rintro e w7 ⟨rfl, vp2, vs2, hI7⟩
                          have HI7 := Aside0.mk hI7
                          clear hI7 HI6 hxf
                          cases b2 with
                          | true =>
                            have HH := H''.out
                            simp only [if_true, Option.some.injEq, Prod.mk.injEq] at HH
                            obtain ⟨rfl, rfl, rfl⟩ := HH
                            go_wp2
                            go_ret
                            exact ⟨rfl, _, _, HI7.out⟩
                          | false =>
                            have HH := H''.out
                            simp only [Bool.false_eq_true, if_false] at HH
                            by_cases c9 : 0 < pl2.length ∧ kk < (su2.length : Int) ∧ pl2.length < 1000
                            · rw [if_pos c9] at HH
                              have HC9 := Aside0.mk c9
                              have H' := Aside0.mk HH
                              obtain ⟨gp, cp2, ep2, _, _, _, _⟩ := Kd.R_form HI7.out.p c9.1
                              obtain ⟨gs2, cs2, es2, _, _, _, _⟩ := Kd.R_form HI7.out.s (by have := HC7.out; omega)
                              subst ep2
                              subst es2
                              clear HH H'' c9
                              obtain ⟨hxp, hfp⟩ := bb_cell HI7.out.cp
                              obtain ⟨n2, hn2⟩ : ∃ n_, pl2.length - 1 = n_ := ⟨_, rfl⟩
                              have hcap := (Kd.R_reads' HI7.out.p).2.1
                              have hw0 : wrap64 ((pl2.length : Int) - 1) = (n2 : Int) := by
                                have := HC9.out
                                unfold wrap64
                                omega
                              have hw1 : (0 ≤ (n2 : Int)) = True := eq_true (by omega)
                              have hw2 : ((n2 : Int) ≤ (cp2 : Int)) = True := eq_true (by omega)
                              have HT := Aside0.mk (show Kd.R (Kd.int .i64) 3 w7 w0.heap.size (fun k => (some k ≠ (Value.slice (some ⟨gs2, 0, none⟩) su2.length cs2).ownBlock ∧ k ≠ bm) ∧ k ≠ bb) (.slice (some ⟨gp, 0, none⟩) n2 cp2) (pl2.take n2) from Kd.R_take HI7.out.p (by omega))
                              have HN2 := Aside0.mk hn2
                              clear hn2 hcap
                              go_upto_region 15 with (fail)
                              have HI8 := Aside0.mk (HI7.out.storeP HT.out (fun _ _ _ => rfl) (Or.inl rfl) HI7.out.b)
                              clear hxp hfp HT HI7 hw0 hw1 hw2
                              generalize w7.setCell ⟨bp, 0, none⟩ (.slice (some ⟨gp, 0, none⟩) n2 cp2) = w8 at HI8 ⊢
                              obtain ⟨hxs, hfs⟩ := bb_cell HI8.out.cs
                              obtain ⟨hx, hf⟩ := Kd.R_celln 0 HI8.out.s kk HC7.out.1 HC9.out.2.1
                              replace hx : w8.cell? ⟨gs2, kk.toNat, none⟩ = some (.int .i64 (rd su2 kk)) := hx
                              obtain ⟨u7, hu7⟩ : ∃ u_, rd su2 kk = u_ := ⟨_, rfl⟩
                              have HA := Aside0.mk (show bbs.fin k2 bar l1 m (pl2.take n2) (su2.set kk.toNat (wrap64 (u7 - p))) p kk = some (b, pl', su') by have e := H'.out; rw [HN2.out, hu7] at e; exact e)
                              rw [hu7] at hx
                              have HI9 := Aside0.mk (HI8.out.setS kk (wrap64 (u7 - p)))
                              have c9b := eq_true HC9.out.2.1
                              go_upto_region 16 with (fail)
                              clear hxs hfs hx hf HI8 H' hu7
                              generalize w8.setCell ⟨gs2, kk.toNat, none⟩ (.int .i64 (wrap64 (u7 - p))) = wz at HI9 ⊢
                              obtain ⟨su9, hsu9⟩ : ∃ su_, su2.set kk.toNat (wrap64 (u7 - p)) = su_ := ⟨_, rfl⟩
                              have HL9 := Aside0.mk (show su2.length = su9.length by rw [← hsu9, List.length_set])
                              rw [hsu9] at HA HI9
                              (try rw [HL9.out] at HI9); (try rw [HL9.out])
                              clear hsu9 c9b HC9 HL9
                              cases k2 with
                              | zero => exact absurd HA.out (by simp [bbs.fin])
                              | succ k4 =>
                                have HH := HA.out
                                simp only [bbs.fin] at HH
                                clear HA
                                by_cases c10 : 0 ≤ kk ∧ kk < (su9.length : Int)
                                · rw [if_pos c10] at HH
                                  obtain ⟨hxs, hfs⟩ := bb_cell HI9.out.cs
                                  obtain ⟨hx, _⟩ := Kd.R_celln 0 HI9.out.s kk c10.1 c10.2
                                  obtain ⟨u9, hu9⟩ : ∃ u_, rd su9 kk = u_ := ⟨_, rfl⟩
                                  replace hx : wz.cell? ⟨gs2, kk.toNat, none⟩ = some (.int .i64 (rd su9 kk)) := hx
                                  rw [hu9] at HH hx
                                  have hcap := (Kd.R_reads' HI9.out.s).2.1
                                  have c10a : (0 ≤ kk) = True := eq_true c10.1
                                  have c10b : (kk < (su9.length : Int)) = True := eq_true c10.2
                                  have c10d : (kk ≤ (cs2 : Int)) = True := eq_true (by omega)
                                  by_cases c11 : u9 = 0
                                  · rw [if_pos c11] at HH
                                    simp only [Option.some.injEq, Prod.mk.injEq] at HH
                                    obtain ⟨rfl, rfl, rfl⟩ := HH
                                    have c11b : (u9 == 0) = true := beq_iff_eq.mpr c11
                                    have HT9 := Aside0.mk (show Kd.R (Kd.int .i64) 3 wz w0.heap.size _ (.slice (some ⟨gs2, 0, none⟩) kk.toNat cs2) (su9.take kk.toNat) from Kd.R_take HI9.out.s (by omega))
                                    clear c11 c10 hu9 hcap
                                    go_wp2
                                    go_ret
                                    exact ⟨rfl, _, _, HI9.out.storeS HT9.out (fun _ _ _ => rfl) (Or.inl rfl) HI9.out.b⟩
                                  · rw [if_neg c11] at HH
                                    have c11b : (u9 == 0) = false := beq_eq_false_iff_ne.mpr c11
                                    have H9 := Aside0.mk HH
                                    clear HH c11 c10 hu9 hcap
                                    go_wp2
                                    go_roundg k4
                                    case measure => have := HK1.out; have := HK2.out; omega
                                    case rel => exact ⟨wrap64 (kk + 1), _, _, _, _, by first | rfl | (simp; done), H9, ⟨by have := HK1.out; have := HK2.out; omega⟩, HI9⟩
                                · rw [if_neg c10] at HH
                                  exact absurd HH (by simp)
                            · rw [if_neg c9] at HH
                              exact absurd HH (by simp)
                        · rw [if_neg c8] at H
                          have c8b0 : decide (wrap64 (u + p) ≤ bar) = false := decide_eq_false c8
                          have H' := Aside0.mk H
                          clear H c8 c7a c7b
                          go_wp2
                          go_quiet (fail)
                          go_upto_region 16 with (fail)
                          have HI9 := Aside0.mk (HI.out.below (pw_below_drewN (Below.refl _ _) nq))
                          clear HI hxs hfs hxb hx c7b0 c7b1 c8b0 HU
                          generalize wc.drewN nq = wz at HI9 ⊢
                          cases k2 with
                          | zero => exact absurd H'.out (by simp [bbs.fin])
                          | succ k4 =>
                            have HH := H'.out
                            simp only [bbs.fin] at HH
                            clear H'
                            by_cases c10 : 0 ≤ kk ∧ kk < (su.length : Int)
                            · rw [if_pos c10] at HH
                              obtain ⟨hxs, hfs⟩ := bb_cell HI9.out.cs
                              obtain ⟨hx, _⟩ := Kd.R_celln 0 HI9.out.s kk c10.1 c10.2
                              obtain ⟨u9, hu9⟩ : ∃ u_, rd su kk = u_ := ⟨_, rfl⟩
                              replace hx : wz.cell? ⟨gs, kk.toNat, none⟩ = some (.int .i64 (rd su kk)) := hx
                              rw [hu9] at HH hx
                              have hcap := (Kd.R_reads' HI9.out.s).2.1
                              have c10a : (0 ≤ kk) = True := eq_true c10.1
                              have c10b : (kk < (su.length : Int)) = True := eq_true c10.2
                              have c10d : (kk ≤ (cs_ : Int)) = True := eq_true (by omega)
                              by_cases c11 : u9 = 0
                              · rw [if_pos c11] at HH
                                simp only [Option.some.injEq, Prod.mk.injEq] at HH
                                obtain ⟨rfl, rfl, rfl⟩ := HH
                                have c11b : (u9 == 0) = true := beq_iff_eq.mpr c11
                                have HT9 := Aside0.mk (show Kd.R (Kd.int .i64) 3 wz w0.heap.size _ (.slice (some ⟨gs, 0, none⟩) kk.toNat cs_) (su.take kk.toNat) from Kd.R_take HI9.out.s (by omega))
                                clear c11 c10 hu9 hcap
                                go_wp2
                                go_ret
                                exact ⟨rfl, _, _, HI9.out.storeS HT9.out (fun _ _ _ => rfl) (Or.inl rfl) HI9.out.b⟩
                              · rw [if_neg c11] at HH
                                have c11b : (u9 == 0) = false := beq_eq_false_iff_ne.mpr c11
                                have H9 := Aside0.mk HH
                                clear HH c11 c10 hu9 hcap
                                go_wp2
                                go_roundg k4
                                case measure => have := HK1.out; have := HK2.out; omega
                                case rel => exact ⟨wrap64 (kk + 1), _, _, _, _, by first | rfl | (simp; done), H9, ⟨by have := HK1.out; have := HK2.out; omega⟩, HI9⟩
                            · rw [if_neg c10] at HH
                              exact absurd HH (by simp)
                      · rw [if_neg c7] at H
                        exact absurd H (by simp)
                · rw [if_neg c5] at H
                  have c5b0 : decide (kk < m) = false := decide_eq_false c5
                  simp only [Option.some.injEq, Prod.mk.injEq] at H
                  obtain ⟨rfl, rfl, rfl⟩ := H
                  go_wp2
                  go_ret
                  exact ⟨rfl, _, _, HI.out⟩
              · rw [if_neg c4] at H
                have c4b0 : decide (kk ≤ (su.length : Int)) = false := decide_eq_false c4
                simp only [Option.some.injEq, Prod.mk.injEq] at H
                obtain ⟨rfl, rfl, rfl⟩ := H
                go_wp2
                go_ret
                exact ⟨rfl, _, _, HI.out⟩
            · rw [if_neg cl] at H
              exact absurd H (by simp)
      · rw [if_neg c3] at h
        exact absurd h (by simp)
  · rw [if_neg cl] at h
    exact absurd h (by simp)
def bbs.most : Nat → Int → List Int → Int → Option (List Int)
  | 0, _, _, _ => none
  | k + 1, bar, ps, m => (bbs.put k bar ps m [] []).bind fun t => if t.1 = true then some t.2.1 else bbs.most k bar ps (wrap64 (m + 1))
theorem bbs.most_mono (bar : Int) (ps : List Int) : ∀ k m, LeO (bbs.most k bar ps m) (bbs.most (k + 1) bar ps m)
  | 0, m => fun r h => by simp [bbs.most] at h
  | k + 1, m => by
    unfold bbs.most
    exact LeO.bind ((bbs.mono_l k).1 _ _ _ _ _) (fun _ => LeO.ite (LeO.refl _) (bbs.most_mono bar ps k _))
structure BmI (w0 W : World) (bq bm bb : Nat) (vq : Value) (m bar : Int) : Prop where
  cq : W.heap[bq]? = some (.cells #[vq] 27 (0, 0))
  cm : W.heap[bm]? = some (.cells #[.int .i64 m] 3 (0, 0))
  cb : W.heap[bb]? = some (.cells #[.int .i64 bar] 3 (0, 0))
  b : Below w0.heap.size w0 W
  le : w0.heap.size ≤ bm
theorem bb_new (W : World) (o : Obj) : (W.alloc o).heap[W.heap.size]? = some o := by
  show (W.heap.push _)[W.heap.size]? = _
  simp
theorem bb_old {W : World} {b : Nat} {o : Obj} (o' : Obj) (h : W.heap[b]? = some o) : (W.alloc o').heap[b]? = some o :=
  ((below_alloc (Below.refl W.heap.size W) o').block b (bb_lt h)).trans h
theorem bb_size (W : World) (o : Obj) : (W.alloc o).heap.size = W.heap.size + 1 := by
  show (W.heap.push _).size = _
  simp
theorem bb_newS (W : World) (o : Obj) {n : Nat} (h : W.heap.size = n) : (W.alloc o).heap[n]? = some o := h ▸ bb_new W o
theorem BmI.start (w : World) (a0 : Int) (v : Value) (m : Int) : BmI w (((w.alloc (.cells #[.int .i64 a0] 3)).alloc (.cells #[v] 27)).alloc (.cells #[.int .i64 m] 3)) (w.heap.size + 1) (w.heap.size + 1 + 1) w.heap.size v m a0 :=
  ⟨bb_old _ (bb_newS _ _ (bb_size _ _)), bb_newS _ _ ((bb_size _ _).trans (congrArg (· + 1) (bb_size _ _))), bb_old _ (bb_old _ (bb_new _ _)), below_alloc (below_alloc (below_alloc (Below.refl _ _) _) _) _, by omega⟩
theorem bb_empty (W : World) (base : Nat) (hb : base ≤ W.heap.size) : Kd.R (Kd.int .i64) 3 (W.alloc (.cells #[] 3)) base (fun k => k = W.heap.size) (.slice (some ⟨W.heap.size, 0, none⟩) 0 0) ([] : List Int) := by
  refine ⟨fun k hk => ?_, [], ?_, Reps.none _ _⟩
  · have : W.heap.size = k := by simpa [Value.ownBlock] using hk
    exact this.symm
  · have h2 := World.ownsRow_lit (base := base) (e := 3) (size := 1) W (#[] : Array Value) 0 hb (by decide) (by simp)
    exact h2
/-- The variables of one round. -/
theorem BmI.round {w0 W : World} {bq bm bb : Nat} {vq : Value} {m bar : Int} (h : BmI w0 W bq bm bb vq m bar) {n n1 n2 n3 n4 : Nat} (e0 : W.heap.size = n) (e1 : n + 1 = n1) (e2 : n1 + 1 = n2) (e3 : n2 + 1 = n3) (e4 : n3 + 1 = n4) (vf : Value) :
    BbI w0 (((((W.alloc (.cells #[] 3)).alloc (.cells #[] 3)).alloc (.cells #[.slice (some ⟨n, 0, none⟩) 0 0] 27)).alloc (.cells #[.slice (some ⟨n1, 0, none⟩) 0 0] 27)).alloc (.cells #[vf] 92)) n2 bq n3 bm bb n4 vq vf m bar (.slice (some ⟨n, 0, none⟩) 0 0) (.slice (some ⟨n1, 0, none⟩) 0 0) [] [] := by
  have s0 := h.b.size
  have lq := bb_lt h.cq
  have lm := bb_lt h.cm
  have lb := bb_lt h.cb
  have z1 : (W.alloc (.cells #[] 3)).heap.size = n1 := by rw [bb_size]; omega
  have z2 : ((W.alloc (.cells #[] 3)).alloc (.cells #[] 3)).heap.size = n2 := by rw [bb_size]; omega
  have hp := bb_empty W w0.heap.size s0
  have hs := bb_empty (W.alloc (.cells #[] 3)) w0.heap.size (by rw [bb_size]; omega)
  rw [e0] at hp
  rw [z1] at hs
  have z3 : (((W.alloc (.cells #[] 3)).alloc (.cells #[] 3)).alloc (.cells #[.slice (some ⟨n, 0, none⟩) 0 0] 27)).heap.size = n3 := by rw [bb_size]; omega
  have z4 : ((((W.alloc (.cells #[] 3)).alloc (.cells #[] 3)).alloc (.cells #[.slice (some ⟨n, 0, none⟩) 0 0] 27)).alloc (.cells #[.slice (some ⟨n1, 0, none⟩) 0 0] 27)).heap.size = n4 := by rw [bb_size]; omega
  have low : ∀ {b : Nat} {o : Obj}, W.heap[b]? = some o → (((((W.alloc (.cells #[] 3)).alloc (.cells #[] 3)).alloc (.cells #[.slice (some ⟨n, 0, none⟩) 0 0] 27)).alloc (.cells #[.slice (some ⟨n1, 0, none⟩) 0 0] 27)).alloc (.cells #[vf] 92)).heap[b]? = some o := fun hb => bb_old _ (bb_old _ (bb_old _ (bb_old _ (bb_old _ hb))))
  refine ⟨?_, ?_, bb_old _ (bb_old _ (bb_newS _ _ z2)), low h.cq, bb_old _ (bb_newS _ _ z3), low h.cm, low h.cb, bb_newS _ _ z4, below_alloc (below_alloc (below_alloc (below_alloc (below_alloc h.b _) _) _) _) _, by omega⟩
  · refine Kd.R_alloc (Kd.R_alloc (Kd.R_alloc (Kd.R_alloc (Kd.R_mono hp (fun k hk => ?_)) _) _) _) _
    refine ⟨⟨fun e => ?_, by omega⟩, by omega⟩
    have : k = n1 := by simpa [Value.ownBlock] using e
    omega
  · refine Kd.R_alloc (Kd.R_alloc (Kd.R_alloc (Kd.R_mono hs (fun k hk => ?_)) _) _) _
    refine ⟨⟨fun e => ?_, by omega⟩, by omega⟩
    have : k = n := by simpa [Value.ownBlock] using e
    omega
theorem BmI.next {w0 W : World} {bp bq bs bm bb bf : Nat} {vq vf : Value} {m bar : Int} {vp vs : Value} {pl su : List Int} (h : BbI w0 W bp bq bs bm bb bf vq vf m bar vp vs pl su) (u : Int) : BmI w0 (W.alloc (.cells #[.int .i64 u] 3)) bq W.heap.size bb vq u bar :=
  ⟨bb_old _ h.cq, bb_new _ _, bb_old _ h.cb, below_alloc h.b _, h.b.size⟩
def impl_bestBars.f (k : Nat) (a0 : Int) (l1 : List Int) : Option (List Int) := bbs.most k a0 l1 0
theorem impl_bestBars.mono : ∀ a0 a1 k, LeO (impl_bestBars.f k a0 a1) (impl_bestBars.f (k + 1) a0 a1) := fun _ _ k => bbs.most_mono _ _ k _
set_option maxHeartbeats 8000000 in
set_option maxRecDepth 100000 in
theorem impl_bestBars.calls (k : Nat) (a0 : Int) (A1 : Option Addr) (c1 : Nat) (l1 : List Int) (r : List Int) (w : World) (hr1 : Kd.C (Kd.int .i64) w A1 l1.length l1) (hc1 : l1.length ≤ c1) (h : impl_bestBars.f k a0 l1 = some r) :
    Calls Try.prog 66 #[.int .i64 a0, .slice A1 l1.length c1] w fun e w' => ∃ v0_ : Value, e = .returned (v0_) ∧ Kd.R (Kd.int .i64) 3 w' w.heap.size (fun _ => True) v0_ r ∧ Below w.heap.size w w' := by
  have HR := Aside0.mk hr1
  have HC := Aside0.mk hc1
  have H' := Aside0.mk (show bbs.most k a0 l1 0 = some r from h)
  clear hr1 hc1 h
  go_enter Try.func66, Try.ntmps66
  go_wp2
  go_loopg [5] k (fun kq v5 w' => ∃ (bm : Nat) (m : Int), v5 = .pointer (some ⟨bm, 0, none⟩) ∧ Aside0 (bbs.most kq a0 l1 m = some r) ∧ Aside0 (kq ≤ k) ∧ Aside0 (BmI w w' (w.heap.size + 1) bm w.heap.size (.slice A1 l1.length c1) m a0))
  case atStart => exact ⟨w.heap.size + 1 + 1, 0, rfl, H', ⟨Nat.le_refl _⟩, ⟨BmI.start _ _ _ _⟩⟩
  case round =>
    clear H'
    obtain ⟨bm, m, rfl, HA, HK1, HI⟩ := hrel
    cases gk with
    | zero => exact absurd HA.out (by simp [bbs.most])
    | succ k1 =>
      have H := HA.out
      clear HA
      simp only [bbs.most] at H
      obtain ⟨⟨b2, pl2, su2⟩, hput, H⟩ := Option.bind_eq_some_iff.mp H
      have HPUT := Aside0.mk hput
      have H' := Aside0.mk H
      clear hput H
      have hmf : ∀ (fn : Fn) (first cap : Array Value) (w : World), (Instr.makeFunc fn first cap).run Try.prog w = .ok (.func fn first cap) w := fun _ _ _ _ => rfl
      go_wp2_with fail
      refine (bbs.calls k1 w _ _ _ _ _ _ A1 c1 l1 m a0 HR.out HC.out _ _ _ [] [] b2 pl2 su2 (HI.out.round rfl rfl rfl rfl rfl _) HPUT.out).mono ?_
      rintro e w7 ⟨rfl, vp2, vs2, hI7⟩
      have HI7 := Aside0.mk hI7
      clear hI7 HI
      obtain ⟨Ap, cp_, ep⟩ := Kd.R_slice HI7.out.p
      subst ep
      cases b2 with
      | true =>
        have HH := H'.out
        simp only [if_true, Option.some.injEq] at HH
        subst HH
        obtain ⟨hxp, hfp⟩ := bb_cell HI7.out.cp
        go_wp2
        go_ret
        exact ⟨_, rfl, Kd.R_mono HI7.out.p (fun _ _ => trivial), HI7.out.b⟩
      | false =>
        have HH := H'.out
        simp only [Bool.false_eq_true, if_false] at HH
        have H9 := Aside0.mk HH
        clear HH H'
        obtain ⟨hxm, hfm⟩ := bb_cell HI7.out.cm
        go_wp2
        go_roundg k1
        case measure => have := HK1.out; omega
        case rel => exact ⟨_, wrap64 (m + 1), rfl, H9, ⟨by have := HK1.out; omega⟩, ⟨BmI.next HI7.out _⟩⟩

/-! ### impl_BestBars: function 30 -/
def impl_BestBars.f (k : Nat) (a0 : Int) (l1 : List Int) : Option (List Int × Bool) := (impl_BarsOk.f a0 l1).bind fun t202 => (if t202 = true then ((impl_bestBars.f k a0 l1).bind fun t203 => (some (t203, true))) else (some (([] : List Int), false)))
theorem impl_BestBars.mono : ∀ a0 a1 k, LeO (impl_BestBars.f k a0 a1) (impl_BestBars.f (k + 1) a0 a1) := by
  intro a0 a1 k
  unfold impl_BestBars.f
  repeat' first
      | (with_reducible exact impl_bestBars.mono _ _ _)
      | (with_reducible exact LeO.refl _)
      | (with_reducible exact LeO.none _)
      | (with_reducible refine LeO.ite ?_ ?_)
      | (with_reducible refine LeO.bind ?_ (fun _ => ?_))
      | exact impl_bestBars.mono _ _ _
      | exact LeO.none _
      | refine LeO.ite ?_ ?_
      | refine LeO.bind ?_ (fun _ => ?_)
set_option maxHeartbeats 8000000 in
set_option maxRecDepth 100000 in
theorem impl_BestBars.calls (k : Nat) (a0 : Int) (A1 : Option Addr) (c1 : Nat) (l1 : List Int) (r1 : List Int) (r2 : Bool) (w : World) (hr1 : Kd.C (Kd.int .i64) w A1 l1.length l1) (hc1 : l1.length ≤ c1) (h : impl_BestBars.f k a0 l1 = some (r1, r2)) :
    Calls Try.prog 30 #[.int .i64 a0, .slice A1 l1.length c1] w fun e w' => ∃ v0_ : Value, e = .returned (.tuple #[v0_, .bool r2]) ∧ Kd.R (Kd.int .i64) 3 w' w.heap.size (fun _ => True) v0_ r1 ∧ Below w.heap.size w w' := by
  have HR1 := Aside0.mk hr1
  have HC1 := Aside0.mk hc1
  clear hr1 hc1
  have HB := Aside0.mk (Below.refl w.heap.size w)
  have H : ((impl_BarsOk.f a0 l1).bind fun t202 => (if t202 = true then ((impl_bestBars.f k a0 l1).bind fun t203 => (some (t203, true))) else (some (([] : List Int), false)))) = some (r1, r2) := h
  clear h
  replace H := Option.bind_eq_some_iff.mp H
  obtain ⟨t202, A30, H⟩ := H
  replace H : (if t202 = true then ((impl_bestBars.f k a0 l1).bind fun t203 => (some (t203, true))) else (some (([] : List Int), false))) = some (r1, r2) := H
  have A3 := Aside0.mk A30
  clear A30
  by_cases c4 : t202 = true
  · subst c4
    have H1 : ((impl_bestBars.f k a0 l1).bind fun t203 => (some (t203, true))) = some (r1, r2) := by rw [if_pos rfl] at H; exact H
    clear H
    have H := H1
    clear H1
    replace H := Option.bind_eq_some_iff.mp H
    obtain ⟨t203, A50, H⟩ := H
    replace H : (some (t203, true)) = some (r1, r2) := H
    have A5 := Aside0.mk A50
    clear A50
    simp only [Option.some.injEq, Prod.mk.injEq] at H
    obtain ⟨rfl, rfl⟩ := H
    go_enter Try.func30, Try.ntmps30
    go_wp2_with (first | ((with_reducible refine gate_callee (f := 33) rfl ?_); refine goesL_ (some 8) rfl rfl Try.func33 (by kernel_rfl) rfl #[.int .i64 a0, .slice A1 l1.length c1] rfl (by (try simp only [List.map_toArray, List.map_cons, List.map_nil]); first | done | rfl | (simp only [List.length_drop, List.length_take]; rfl)) ?_; (with_reducible refine (impl_BarsOk.calls a0 _ _ l1 true _ ?side1 ?side2 A3.out).mono ?_); (case side1 => repeat (first | exact HR1.out | (with_reducible refine Kd.C_alloc ?_ _) | (with_reducible refine Kd.C_drewN ?_ _) | (with_reducible refine Kd.C_drew ?_))); (case side2 => exact HC1.out); rintro e w6 ⟨rfl, hb⟩; refine ⟨_, rfl, ?_⟩; have n0_ := Aside0.mk (below_step (by repeat (first | (with_reducible first | exact HB.out | apply below_alloc | apply pw_below_drewN | apply below_drew1) | exact HB.out)) hb); clear HB; have HB := n0_; clear n0_; (try clear hb); (try clear hb2); (try clear hk); (try clear hi)) | ((with_reducible refine gate_callee (f := 66) rfl ?_); refine goesL_ (some 12) rfl rfl Try.func66 (by kernel_rfl) rfl #[.int .i64 a0, .slice A1 l1.length c1] rfl (by (try simp only [List.map_toArray, List.map_cons, List.map_nil]); first | done | rfl | (simp only [List.length_drop, List.length_take]; rfl)) ?_; (with_reducible refine (impl_bestBars.calls k a0 _ _ l1 t203 _ ?side1 ?side2 A5.out).mono ?_); (case side1 => repeat (first | exact (Kd.C_below HR1.out HB.out) | (with_reducible refine Kd.C_alloc ?_ _) | (with_reducible refine Kd.C_drewN ?_ _) | (with_reducible refine Kd.C_drew ?_))); (case side2 => exact HC1.out); rintro e w7 ⟨v204, rfl, ho0, hb⟩; refine ⟨_, rfl, ?_⟩; have n0_ := Aside0.mk (Kd.R_lower ho0 (below_size (by repeat (first | (with_reducible first | exact HB.out | apply below_alloc | apply pw_below_drewN | apply below_drew1) | exact HB.out)))); have n1_ := Aside0.mk (below_step (by repeat (first | (with_reducible first | exact HB.out | apply below_alloc | apply pw_below_drewN | apply below_drew1) | exact HB.out)) hb); clear HB; have HO205 := n0_; have HB := n1_; clear n0_ n1_; (try clear hb); (try clear hb2); (try clear hk); (try clear hi); (try clear ho0)))
    go_ret2
    exact ⟨_, by first | rfl | (simp [errW_none, errW_some] <;> rfl) | (simp [*, errW_none, errW_some] <;> rfl), by (with_reducible repeat (first | apply Kd.R_alloc | apply Kd.R_drewN | apply Kd.R_drew)); exact HO205.out, by repeat (first | (with_reducible first | exact HB.out | apply below_alloc | apply pw_below_drewN | apply below_drew1) | exact HB.out)⟩
  · replace c4 := Bool.eq_false_iff.mpr c4
    subst c4
    have H1 : (some (([] : List Int), false)) = some (r1, r2) := by rw [if_neg (show ¬ (false = true) by decide)] at H; exact H
    clear H
    have H := H1
    clear H1
    simp only [Option.some.injEq, Prod.mk.injEq] at H
    obtain ⟨rfl, rfl⟩ := H
    go_enter Try.func30, Try.ntmps30
    go_wp2_with (first | ((with_reducible refine gate_callee (f := 33) rfl ?_); refine goesL_ (some 8) rfl rfl Try.func33 (by kernel_rfl) rfl #[.int .i64 a0, .slice A1 l1.length c1] rfl (by (try simp only [List.map_toArray, List.map_cons, List.map_nil]); first | done | rfl | (simp only [List.length_drop, List.length_take]; rfl)) ?_; (with_reducible refine (impl_BarsOk.calls a0 _ _ l1 false _ ?side1 ?side2 A3.out).mono ?_); (case side1 => repeat (first | exact HR1.out | (with_reducible refine Kd.C_alloc ?_ _) | (with_reducible refine Kd.C_drewN ?_ _) | (with_reducible refine Kd.C_drew ?_))); (case side2 => exact HC1.out); rintro e w8 ⟨rfl, hb⟩; refine ⟨_, rfl, ?_⟩; have n0_ := Aside0.mk (below_step (by repeat (first | (with_reducible first | exact HB.out | apply below_alloc | apply pw_below_drewN | apply below_drew1) | exact HB.out)) hb); clear HB; have HB := n0_; clear n0_; (try clear hb); (try clear hb2); (try clear hk); (try clear hi)))
    go_ret2
    exact ⟨_, by first | rfl | (simp [errW_none, errW_some] <;> rfl) | (simp [*, errW_none, errW_some] <;> rfl), by first | exact Kd.R_nil _ _ _ _ _ | exact Kd.N_nil _ _ _ _ _ | exact Kd.V_nil _ _ _ _ _ | exact Kd.Q_nil _ _ _ _ _ | exact Kd.S_nil _ _ _ _ _, by repeat (first | (with_reducible first | exact HB.out | apply below_alloc | apply pw_below_drewN | apply below_drew1) | exact HB.out)⟩

end Go.Proofs.Ytadloeklhjoohaa.XFnBars
