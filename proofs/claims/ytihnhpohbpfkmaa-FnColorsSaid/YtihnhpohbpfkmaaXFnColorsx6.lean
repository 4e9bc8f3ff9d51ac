/- What functions of the program compute, as plain Lean functions, and that Go's calls come to just that: written by wip/tools/xprint.py for the law FnColors. -/
import Derived.Test.YtihnhpohbpfkmaaXFnColorsx0
import Derived.Test.YtihnhpohbpfkmaaXFnColorsx3
import Derived.Test.YtihnhpohbpfkmaaXFnColorsx5
namespace Go.Proofs.Ytihnhpohbpfkmaa.XFnColors
open Go.RowKit Go.Proofs.YtihnhpohbpfkmaaW.PrintWords Go.Proofs.YtihnhpohbpfkmaaW.PrintLast Go.Proofs.YtihnhpohbpfkmaaW.PrintMore
attribute [local go_sem] max2_int min2_int max_two min_two max_three min_three max_four min_four   -- for this text's walks alone
set_option linter.unusedVariables false
set_option linter.unusedSimpArgs false

/-! ### impl_meet: function 70 -/
/-! meet: the ends that two segments share, by a closure over a row of points -/
def eqPt (p q : S25) : Bool := (p.f0 == q.f0) && (p.f1 == q.f1)
def addPt (xs : List S25) (p : S25) : List S25 := if xs.any (eqPt p) then xs else xs ++ [p]
structure MtI (w0 W : World) (be : Nat) (ok : Nat → Prop) (v : Value) (xs : List S25) : Prop where
 r : Kd.R k25 25 W w0.heap.size ok v xs
 c : W.heap[be]? = some (.cells #[v] 33 (0, 0))
 b : Below w0.heap.size w0 W
 base : w0.heap.size ≤ be
 fresh : ∀ k, W.heap.size ≤ k → ok k
 no : ¬ ok be
structure MtF (be : Nat) (v : Value) (W W' : World) : Prop where
 size : W.heap.size ≤ W'.heap.size
 old : ∀ k, k < W.heap.size → k ≠ be → some k ≠ v.ownBlock → W'.heap[k]? = W.heap[k]?
section
variable {w0 W W' : World} {be : Nat} {ok : Nat → Prop} {v : Value} {xs : List S25}
theorem mt_lt {b : Nat} {o : Obj} (h : W.heap[b]? = some o) : b < W.heap.size := (Array.getElem?_eq_some_iff.1 h).1
theorem MtI.below (h : MtI w0 W be ok v xs) (hb : Below W.heap.size W W') : MtI w0 W' be ok v xs :=
 ⟨Kd.R_below h.r hb, (hb.block _ (mt_lt h.c)).trans h.c, below_step h.b hb, h.base, fun k hk => h.fresh k (Nat.le_trans hb.size hk), h.no⟩
theorem mt_cell {b t : Nat} {v : Value} (h : W.heap[b]? = some (.cells #[v] t (0, 0))) : W.cell? ⟨b, 0, none⟩ = some v ∧ W.frozen? ⟨b, 0, none⟩ = false := by
 refine ⟨by simp [World.cell?, h], by simp [World.frozen?, h]⟩
theorem MtI.own_ne (h : MtI w0 W be ok v xs) : some be ≠ v.ownBlock := fun e => h.no (h.r.1 be e.symm)
/-- The row's value is stored into its block. -/
theorem MtI.store {W2 : World} {v1 : Value} {ys : List S25} (h : MtI w0 W be ok v xs) (hr : Kd.R k25 25 W2 w0.heap.size ok v1 ys) (hg : W.grownBy W2 v.ownBlock) (hb : Below w0.heap.size w0 W2) (hs : W.heap.size ≤ W2.heap.size) : MtI w0 (W2.setCell ⟨be, 0, none⟩ v1) be ok v1 ys ∧ MtF be v W (W2.setCell ⟨be, 0, none⟩ v1) := by
 have e2 : W2.heap[be]? = some (.cells #[v] 33 (0, 0)) := (hg.block be (mt_lt h.c) h.own_ne).trans h.c
 have hz : (W2.setCell ⟨be, 0, none⟩ v1).heap.size = W2.heap.size := by
  show (W2.heap.modify be _).size = _
  rw [Array.size_modify]
 refine ⟨⟨Kd.R_set hr e2 (by decide) 0 v1, ?_, below_set hb h.base, h.base, fun k hk => h.fresh k (by omega), h.no⟩, ⟨by omega, fun k hk hne hov => ?_⟩⟩
 ·show (W2.heap.modify be _)[be]? = _
  rw [Array.getElem?_modify, if_pos rfl, e2]; rfl
 ·exact (Below.heap_setCell W2 ⟨be, 0, none⟩ v1 k hne).trans (hg.block k hk hov)
end
theorem mt_new (W : World) (o : Obj) : (W.alloc o).heap[W.heap.size]? = some o := by
 show (W.heap.push _)[W.heap.size]? = _
 simp
theorem mt_box {W : World} {b T : Nat} {x y : Value} (h : W.heap[b]? = some (.cells #[x, y] T (0, 0))) : W.cell? ⟨b, 0, none⟩ = some x ∧ W.cell? ⟨b, 1, none⟩ = some y := by
 refine ⟨by simp [World.cell?, h], by simp [World.cell?, h]⟩
theorem mt_i64 {i : Nat} (h : i < 100) : Value.int .i64 (wrap64 ((i : Int) + 1)) = Value.int .i64 ((i + 1 : Nat) : Int) := by
 rw [show wrap64 ((i : Int) + 1) = (i : Int) + 1 from by unfold wrap64; omega]
 rfl
theorem any_step (p : S25) (xs : List S25) (i : Nat) (hi : i < xs.length) (h : eqPt p (rd_T25 xs (i : Int)) = false) : (xs.drop i).any (eqPt p) = (xs.drop (i + 1)).any (eqPt p) := by
 rw [List.drop_eq_getElem_cons hi, List.any_cons]
 have e : rd_T25 xs (i : Int) = xs[i] := by
  unfold rd_T25
  rw [List.getD_eq_getElem?_getD, Int.toNat_natCast, List.getElem?_eq_getElem hi]; rfl
 rw [← e, h]
 rfl
theorem any_hit (p : S25) (xs : List S25) (i : Nat) (hi : i < xs.length) (h : eqPt p (rd_T25 xs (i : Int)) = true) : xs.any (eqPt p) = true := by
 have e : rd_T25 xs (i : Int) = xs[i] := by
  unfold rd_T25
  rw [List.getD_eq_getElem?_getD, Int.toNat_natCast, List.getElem?_eq_getElem hi]; rfl
 rw [e] at h
 exact List.any_eq_true.2 ⟨_, List.getElem_mem hi, h⟩
set_option maxHeartbeats 8000000 in
set_option maxRecDepth 100000 in
theorem mt_add (w0 W : World) (be : Nat) (ok : Nat → Prop) (v : Value) (xs : List S25) (p : S25) (hI : MtI w0 W be ok v xs) (hl : xs.length ≤ 10) :
  Calls Try.prog 104 #[.agg #[.int .i64 p.f0, .int .i64 p.f1], .pointer (some ⟨be, 0, none⟩)] W fun e W' => e = .returned (.tuple #[]) ∧ ∃ v', MtI w0 W' be ok v' (addPt xs p) ∧ MtF be v W W' ∧ (v'.ownBlock = v.ownBlock ∨ ∃ b, v'.ownBlock = some b ∧ W.heap.size ≤ b) := by
 have hu := Try.underlying25
 obtain ⟨A, c, ev⟩ := Kd.R_slice hI.r
 subst ev
 have HI := Aside0.mk hI
 have HL := Aside0.mk hl
 obtain ⟨px, py⟩ := p
 have hI1 := hI.below (below_alloc (Below.refl W.heap.size W) (.cells #[.int .i64 px, .int .i64 py] 25))
 have hb1 := below_alloc (Below.refl W.heap.size W) (.cells #[.int .i64 px, .int .i64 py] 25)
 have hn1 := mt_new W (.cells #[.int .i64 px, .int .i64 py] 25)
 obtain ⟨bp, hbp⟩ : ∃ b_, W.heap.size = b_ := ⟨_, rfl⟩
 have hlt : bp < (W.alloc (.cells #[.int .i64 px, .int .i64 py] 25)).heap.size := by
  rw [← hbp]; show _ < (W.heap.push _).size
  rw [Array.size_push]; omega
 clear hI hl
 go_enter Try.func104, Try.ntmps104
 go_upto_region 1 with (fail)
 rw [hbp] at hn1
 generalize W.alloc (.cells #[.int .i64 px, .int .i64 py] 25) = W1 at hI1 hb1 hn1 hlt ⊢
 have HI1 := Aside0.mk hI1
 have HB1 := Aside0.mk hb1
 have HN1 := Aside0.mk hn1
 have HBP := Aside0.mk hlt
 have HBW := Aside0.mk hbp
 obtain ⟨hx1, hx2⟩ := mt_cell hI1.c
 clear hI1 hb1 hn1 hlt hbp HI
 go_wp2
 go_loopg [7] xs.length (fun kq v7 w' => ∃ (i : Nat), v7 = .int .i64 (i : Int) ∧ Aside0 (kq + i = xs.length) ∧ Aside0 (Below W1.heap.size W1 w') ∧ Aside0 ((xs.drop i).any (eqPt ⟨px, py⟩) = xs.any (eqPt ⟨px, py⟩)))
 case atStart => exact ⟨0, rfl, ⟨by omega⟩, ⟨Below.refl _ _⟩, ⟨rfl⟩⟩
 case round =>
  clear hx1 hx2; obtain ⟨i, rfl, HK, HB, HA⟩ := hrel; by_cases c1 : i < xs.length
  ·have c1b : decide ((i : Int) < (xs.length : Int)) = true := decide_eq_true (by omega)
   have c1c : ((i : Int) < (xs.length : Int)) = True := eq_true (by omega); have c1d : (0 ≤ (i : Int)) = True := eq_true (by omega); have HIW := Aside0.mk (HI1.out.below HB.out); obtain ⟨ad, e1, hc0, hc1⟩ := at_T25 (Kd.R_reads' HIW.out.r).2.2 (i : Int) (by omega) (by omega); subst e1; simp only [Int.toNat_natCast] at hc0 hc1; generalize hq : rd_T25 xs (i : Int) = q at hc0 hc1; have HQ := Aside0.mk hq; clear hq; have C1 := Aside0.mk c1; clear c1; have HC0 := Aside0.mk hc0; have HC1 := Aside0.mk hc1; obtain ⟨hb0, hb1⟩ := mt_box ((HB.out.block bp HBP.out).trans HN1.out); go_upto_region 4 with (fail)
   obtain ⟨b4, hb4⟩ : ∃ b_, wr.heap.size = b_ := ⟨_, rfl⟩; have ha4 := below_alloc (Below.refl wr.heap.size wr) (.cells #[.int .i64 q.f0, .int .i64 q.f1] 25); have hn4 := mt_new wr (.cells #[.int .i64 q.f0, .int .i64 q.f1] 25); clear hc0 hc1 hb0 hb1; rw [hb4] at hn4 ⊢; generalize wr.alloc (.cells #[.int .i64 q.f0, .int .i64 q.f1] 25) = w4 at ha4 hn4 ⊢; have HB4 := Aside0.mk (below_step HB.out ha4); obtain ⟨hc0, hc1⟩ := mt_box hn4; obtain ⟨hb0, hb1⟩ := mt_box ((HB4.out.block bp HBP.out).trans HN1.out); have HI4 := Aside0.mk (HI1.out.below HB4.out); clear ha4 hn4 hb4; by_cases e1 : q.f0 = px
   ·rw [e1] at hc0
    by_cases e2 : q.f1 = py
    ·rw [e2] at hc1
     have C2 := Aside0.mk (show eqPt ⟨px, py⟩ q = true by simp [eqPt, e1, e2]); clear e1 e2; go_wp2; (try simp only [Exit.inBlock, Exit.then]); refine bodyPost_ret (results_none rfl _ _ _) rfl ?_; have ea : addPt xs ⟨px, py⟩ = xs := by
      unfold addPt
      rw [if_pos (any_hit _ xs i C1.out (by rw [HQ.out]; exact C2.out))]
     refine ⟨rfl, _, by rw [ea]; exact HI4.out, ?_, Or.inl rfl⟩; exact ⟨Nat.le_trans HB1.out.size HB4.out.size, fun k hk _ _ => (HB4.out.block k (Nat.lt_of_lt_of_le hk HB1.out.size)).trans (HB1.out.block k hk)⟩
    ·have e2n : (py = q.f1) = False := eq_false (fun h => e2 h.symm)
     have e2b : (py == q.f1) = false := beq_eq_false_iff_ne.mpr (fun h => e2 h.symm); have C2 := Aside0.mk (show eqPt ⟨px, py⟩ q = false by simp [eqPt, e1, e2b]); clear e1 e2; go_wp2; go_roundg (gk - 1)
     case measure => have := HK.out; have := C1.out; omega
     case rel => exact ⟨i + 1, mt_i64 (by have := HL.out; have := C1.out; omega), ⟨by have := HK.out; have := C1.out; omega⟩, HB4, ⟨(any_step _ xs i C1.out (by rw [HQ.out]; exact C2.out)).symm.trans HA.out⟩⟩
   ·have e1n : (px = q.f0) = False := eq_false (fun h => e1 h.symm)
    have e1b : (px == q.f0) = false := beq_eq_false_iff_ne.mpr (fun h => e1 h.symm); have C2 := Aside0.mk (show eqPt ⟨px, py⟩ q = false by simp [eqPt, e1b]); clear e1; go_wp2; go_roundg (gk - 1)
    case measure => have := HK.out; have := C1.out; omega
    case rel => exact ⟨i + 1, mt_i64 (by have := HL.out; have := C1.out; omega), ⟨by have := HK.out; have := C1.out; omega⟩, HB4, ⟨(any_step _ xs i C1.out (by rw [HQ.out]; exact C2.out)).symm.trans HA.out⟩⟩
  ·have c1b : decide ((i : Int) < (xs.length : Int)) = false := decide_eq_false (by omega)
   have c1n : decide (i < xs.length) = false := decide_eq_false c1; have hil : i = xs.length := by have := HK.out; omega
   have hno : xs.any (eqPt ⟨px, py⟩) = false := by
    have := HA.out; rw [hil, List.drop_length] at this; exact this.symm
   have HNO := Aside0.mk hno; have HIW := Aside0.mk (HI1.out.below HB.out); obtain ⟨hx1, hx2⟩ := mt_cell HIW.out.c; obtain ⟨hb0, hb1⟩ := mt_box ((HB.out.block bp HBP.out).trans HN1.out); clear c1 hil hno; go_upto_region 6 with (fail)
   have HIA := Aside0.mk (HIW.out.below (below_alloc (Below.refl wr.heap.size wr) (.cells #[.int .i64 px, .int .i64 py] 25))); go_wp2_with (first | ((with_reducible refine gate_builtin (b := .append) (xs := #[.tmp 15, .tmp 17]) rfl ?_); at_builtin; go_loud (refine Kd.R_append k25 (w0 := w0) w0.heap.size rfl (.tmp 15) (.tmp 17) 33 25 (.agg #[(.int .i64 0), (.int .i64 0)]) 16 rfl Try.underlying33 info25 rfl (by decide) (by omega) (.slice A xs.length c) xs (⟨px, py⟩ : S25) [.int .i64 px, .int .i64 py] ok (fun _ => False) rfl rfl ?aP (fun _ hk => hk.elim) ?aF ?aO ?aB ?aS ?aL ?_; (case aP => exact k25_mkM _ _ _ (⟨px, py⟩ : S25)); (case aF => exact HIW.out.fresh); (case aO => first | exact HIA.out.r | exact HIW.out.r); (case aB => first | exact HIA.out.b | exact HIW.out.b); (case aS => first | exact HIA.out.b.size | exact HIW.out.b.size); (case aL => have := HL.out; omega); intro v1 w1 ho hb hg hat; obtain ⟨Av1, cv1, ev1⟩ := Kd.R_slice ho; subst ev1; obtain ⟨hy1, hy2⟩ := mt_cell ((hg.block be (mt_lt HIW.out.c) HIW.out.own_ne).trans HIW.out.c); have HS := Aside0.mk (HIW.out.store ho hg hb hg.size); have HAT := Aside0.mk hat; clear ho hb hg hat))); have ea : addPt xs ⟨px, py⟩ = xs ++ [⟨px, py⟩] := by
    unfold addPt
    rw [if_neg (by rw [HNO.out]; decide)]
   have hz : W.heap.size ≤ wr.heap.size := Nat.le_trans HB1.out.size HB.out.size; (try simp only [Exit.inBlock, Exit.then]); refine bodyPost_end (results_none rfl _ _ _) rfl ?_; have HS' := HS.out; rw [show (xs ++ [(⟨px, py⟩ : S25)]).length = xs.length + 1 from by simp] at HS'; have HAT' := HAT.out; rw [show (xs ++ [(⟨px, py⟩ : S25)]).length = xs.length + 1 from by simp] at HAT'; refine ⟨rfl, _, by rw [ea]; exact HS'.1, ⟨Nat.le_trans hz HS'.2.size, fun k hk hne hov => ?_⟩, ?_⟩
   ·exact (HS'.2.old k (Nat.lt_of_lt_of_le hk hz) hne hov).trans ((HB.out.block k (Nat.lt_of_lt_of_le hk HB1.out.size)).trans (HB1.out.block k hk))
   ·rcases HAT' with h | ⟨b, h1, h2⟩
    ·exact Or.inl h
    ·exact Or.inr ⟨b, h1, Nat.le_trans hz h2⟩
def mtAll (on : S25 → Option Bool) : List S25 → List S25 → Option (List S25)
 | [], xs => some xs
 | p :: ps, xs => (on p).bind fun b => mtAll on ps (if b then addPt xs p else xs)
structure MtX (w W : World) (be : Nat) (ok : Nat → Prop) (v : Value) (xs : List S25) (L : List (Nat × Obj)) : Prop where
 i : MtI w W be ok v xs
 k : ∀ x ∈ L, W.heap[x.1]? = some x.2 ∧ x.1 ≠ be ∧ ¬ ok x.1
section
variable {w W W' : World} {be : Nat} {ok : Nat → Prop} {v v' : Value} {xs ys : List S25} {L : List (Nat × Obj)}
theorem MtX.below (h : MtX w W be ok v xs L) (hb : Below W.heap.size W W') : MtX w W' be ok v xs L :=
 ⟨h.i.below hb, fun x hx => ⟨(hb.block _ (mt_lt (h.k x hx).1)).trans (h.k x hx).1, (h.k x hx).2⟩⟩
theorem MtX.add (h : MtX w W be ok v xs L) (hi : MtI w W' be ok v' ys) (hf : MtF be v W W') : MtX w W' be ok v' ys L :=
 ⟨hi, fun x hx => ⟨(hf.old _ (mt_lt (h.k x hx).1) (h.k x hx).2.1 (fun e => (h.k x hx).2.2 (h.i.r.1 x.1 e.symm))).trans (h.k x hx).1, (h.k x hx).2⟩⟩
theorem MtX.push (h : MtX w W be ok v xs L) (o : Obj) : MtX w (W.alloc o) be (fun k => ok k ∧ k ≠ W.heap.size) v xs ((W.heap.size, o) :: L) := by
 have hb := below_alloc (Below.refl W.heap.size W) o
 have hz : (W.alloc o).heap.size = W.heap.size + 1 := by
  show (W.heap.push _).size = _
  rw [Array.size_push]
 refine ⟨⟨Kd.R_below (Kd.R_elderB h.i.r W.heap.size (Nat.le_refl _)) hb, (h.i.below hb).c, (h.i.below hb).b, h.i.base, fun k hk => ⟨h.i.fresh k (by omega), by omega⟩, fun hn => h.i.no hn.1⟩, fun x hx => ?_⟩
 rcases List.mem_cons.1 hx with rfl | hx
 ·exact ⟨mt_new W o, fun e => Nat.lt_irrefl _ (e ▸ mt_lt h.i.c), fun hn => hn.2 rfl⟩
 ·exact ⟨(hb.block _ (mt_lt (h.k x hx).1)).trans (h.k x hx).1, (h.k x hx).2.1, fun hn => (h.k x hx).2.2 hn.1⟩
end
theorem mt_nil_R (W : World) (base : Nat) (ok : Nat → Prop) (hb : base ≤ W.heap.size) (hok : ok W.heap.size) : Kd.R k25 25 (W.alloc (.cells #[] 25)) base ok (.slice (some ⟨W.heap.size, 0, none⟩) 0 0) [] := by
 refine ⟨fun k hk => ?_, [], ?_, ?_⟩
 ·have : W.heap.size = k := by simpa [Value.ownBlock] using hk
  exact this ▸ hok
 ·have h2 := World.ownsRow_lit (base := base) (e := 25) (size := k25.sz) W #[] 0 hb (by decide) (by simp)
  simpa using h2
 ·exact Reps.none _ _
theorem al_size (W : World) (o : Obj) : (W.alloc o).heap.size = W.heap.size + 1 := by
 show (W.heap.push _).size = _
 rw [Array.size_push]
theorem al_old (W : World) (o : Obj) {k : Nat} {x : Obj} (h : W.heap[k]? = some x) : (W.alloc o).heap[k]? = some x :=
 ((below_alloc (Below.refl W.heap.size W) o).block k (mt_lt h)).trans h
def ptObj (p : S25) : Obj := .cells #[.int .i64 p.f0, .int .i64 p.f1] 25 (0, 0)
theorem mt_start (w : World) (a b c d : S25) : ∃ W : World, ((((((w.alloc (.cells #[.int .i64 a.f0, .int .i64 a.f1] 25)).alloc (.cells #[.int .i64 b.f0, .int .i64 b.f1] 25)).alloc (.cells #[.int .i64 c.f0, .int .i64 c.f1] 25)).alloc (.cells #[.int .i64 d.f0, .int .i64 d.f1] 25)).alloc (.cells #[] 25)).alloc (.cells #[.slice (some ⟨w.heap.size + 1 + 1 + 1 + 1, 0, none⟩) 0 0] 33)) = W ∧ ∃ ok v, MtX w W (w.heap.size + 1 + 1 + 1 + 1 + 1) ok v [] [(w.heap.size, ptObj a), (w.heap.size + 1, ptObj b), (w.heap.size + 1 + 1, ptObj c), (w.heap.size + 1 + 1 + 1, ptObj d)] := by
 refine ⟨_, rfl, fun k => w.heap.size + 4 ≤ k ∧ k ≠ w.heap.size + 5, .slice (some ⟨w.heap.size + 1 + 1 + 1 + 1, 0, none⟩) 0 0, ?_⟩
 have z1 := al_size w (.cells #[.int .i64 a.f0, .int .i64 a.f1] 25)
 have k1 := mt_new w (.cells #[.int .i64 a.f0, .int .i64 a.f1] 25)
 have b1 := below_alloc (Below.refl w.heap.size w) (.cells #[.int .i64 a.f0, .int .i64 a.f1] 25)
 generalize w.alloc (.cells #[.int .i64 a.f0, .int .i64 a.f1] 25) = W1 at *
 have z2 := al_size W1 (.cells #[.int .i64 b.f0, .int .i64 b.f1] 25)
 have k2 := mt_new W1 (.cells #[.int .i64 b.f0, .int .i64 b.f1] 25)
 have k21 := al_old W1 (.cells #[.int .i64 b.f0, .int .i64 b.f1] 25) k1
 have b2 := below_step b1 (below_alloc (Below.refl W1.heap.size W1) (.cells #[.int .i64 b.f0, .int .i64 b.f1] 25))
 generalize W1.alloc (.cells #[.int .i64 b.f0, .int .i64 b.f1] 25) = W2 at *
 have z3 := al_size W2 (.cells #[.int .i64 c.f0, .int .i64 c.f1] 25)
 have k3 := mt_new W2 (.cells #[.int .i64 c.f0, .int .i64 c.f1] 25)
 have k31 := al_old W2 (.cells #[.int .i64 c.f0, .int .i64 c.f1] 25) k21
 have k32 := al_old W2 (.cells #[.int .i64 c.f0, .int .i64 c.f1] 25) k2
 have b3 := below_step b2 (below_alloc (Below.refl W2.heap.size W2) (.cells #[.int .i64 c.f0, .int .i64 c.f1] 25))
 generalize W2.alloc (.cells #[.int .i64 c.f0, .int .i64 c.f1] 25) = W3 at *
 have z4 := al_size W3 (.cells #[.int .i64 d.f0, .int .i64 d.f1] 25)
 have k4 := mt_new W3 (.cells #[.int .i64 d.f0, .int .i64 d.f1] 25)
 have k41 := al_old W3 (.cells #[.int .i64 d.f0, .int .i64 d.f1] 25) k31
 have k42 := al_old W3 (.cells #[.int .i64 d.f0, .int .i64 d.f1] 25) k32
 have k43 := al_old W3 (.cells #[.int .i64 d.f0, .int .i64 d.f1] 25) k3
 have b4 := below_step b3 (below_alloc (Below.refl W3.heap.size W3) (.cells #[.int .i64 d.f0, .int .i64 d.f1] 25))
 generalize W3.alloc (.cells #[.int .i64 d.f0, .int .i64 d.f1] 25) = W4 at *
 have e4 : W4.heap.size = w.heap.size + 1 + 1 + 1 + 1 := by omega
 have r0 := mt_nil_R W4 w.heap.size (fun k => w.heap.size + 4 ≤ k ∧ k ≠ w.heap.size + 5) (by omega) ⟨by omega, by omega⟩
 rw [e4] at r0
 have z5 := al_size W4 (.cells #[] 25)
 have k51 := al_old W4 (.cells #[] 25) k41
 have k52 := al_old W4 (.cells #[] 25) k42
 have k53 := al_old W4 (.cells #[] 25) k43
 have k54 := al_old W4 (.cells #[] 25) k4
 have b5 := below_step b4 (below_alloc (Below.refl W4.heap.size W4) (.cells #[] 25))
 generalize W4.alloc (.cells #[] 25) = W5 at *
 generalize ho : (.cells #[.slice (some ⟨w.heap.size + 1 + 1 + 1 + 1, 0, none⟩) 0 0] 33 : Obj) = o at *
 have z6 := al_size W5 o
 have k6 := mt_new W5 o
 have k61 := al_old W5 o k51
 have k62 := al_old W5 o k52
 have k63 := al_old W5 o k53
 have k64 := al_old W5 o k54
 have b6 := below_alloc (Below.refl W5.heap.size W5) o
 rw [show W5.heap.size = w.heap.size + 1 + 1 + 1 + 1 + 1 from by omega] at k6
 rw [show W3.heap.size = w.heap.size + 1 + 1 + 1 from by omega] at k64
 rw [show W2.heap.size = w.heap.size + 1 + 1 from by omega] at k63
 rw [show W1.heap.size = w.heap.size + 1 from by omega] at k62
 refine ⟨⟨Kd.R_below r0 b6, by rw [k6, ← ho], below_step b5 b6, by omega, fun k hk => ⟨by omega, by omega⟩, fun h => h.2 (by omega)⟩, fun x hx => ?_⟩
 simp only [List.mem_cons, List.not_mem_nil, or_false] at hx
 rcases hx with rfl | rfl | rfl | rfl
 ·exact ⟨k61, by simp only; omega, fun h => by have := h.1; simp only at this; omega⟩
 ·exact ⟨k62, by simp only; omega, fun h => by have := h.1; simp only at this; omega⟩
 ·exact ⟨k63, by simp only; omega, fun h => by have := h.1; simp only at this; omega⟩
 ·exact ⟨k64, by simp only; omega, fun h => by have := h.1; simp only at this; omega⟩
theorem mt_pair {W : World} {bl i : Nat} {x0 x1 y0 y1 : Int} (hi : i < 2) (h : W.heap[bl]? = some (.cells #[.int .i64 x0, .int .i64 x1, .int .i64 y0, .int .i64 y1] 25 (0, 0))) : ∃ p : S25, ([⟨x0, x1⟩, ⟨y0, y1⟩] : List S25).drop i = p :: ([⟨x0, x1⟩, ⟨y0, y1⟩] : List S25).drop (i + 1) ∧ W.cell? ⟨bl, i * 2, none⟩ = some (.int .i64 p.f0) ∧ W.cell? ⟨bl, i * 2 + 1, none⟩ = some (.int .i64 p.f1) := by
 have : i = 0 ∨ i = 1 := by omega
 rcases this with rfl | rfl
 ·exact ⟨⟨x0, x1⟩, rfl, by simp [World.cell?, h], by simp [World.cell?, h]⟩
 ·exact ⟨⟨y0, y1⟩, rfl, by simp [World.cell?, h], by simp [World.cell?, h]⟩
theorem addPt_len (xs : List S25) (p : S25) : (addPt xs p).length ≤ xs.length + 1 := by
 unfold addPt
 split <;> simp
def impl_meet.on (a b p : S25) : Option Bool := impl_isOn.f a.f0 a.f1 b.f0 b.f1 p.f0 p.f1
def impl_meet.tail (a b c d : S25) (ys : List S25) : Option Int :=
 if (ys.length : Int) > 1 then some 3 else if (ys.length : Int) = 1 then some 1 else
 (impl_cross.f a.f0 a.f1 b.f0 b.f1 c.f0 c.f1).bind fun x1 => (impl_sign.f x1).bind fun s1 => (impl_cross.f a.f0 a.f1 b.f0 b.f1 d.f0 d.f1).bind fun x2 => (impl_sign.f x2).bind fun s2 =>
 if wrap64 (s1 * s2) < 0 then
  (impl_cross.f c.f0 c.f1 d.f0 d.f1 a.f0 a.f1).bind fun x3 => (impl_sign.f x3).bind fun s3 => (impl_cross.f c.f0 c.f1 d.f0 d.f1 b.f0 b.f1).bind fun x4 => (impl_sign.f x4).bind fun s4 =>
  if wrap64 (s3 * s4) < 0 then some 2 else some 0
 else some 0
def impl_meet.g (a b c d : S25) : Option Int :=
 (mtAll (impl_meet.on a b) [c, d] []).bind fun xs => (mtAll (impl_meet.on c d) [a, b] xs).bind fun ys => impl_meet.tail a b c d ys
def impl_meet.f (a0_0 a0_1 a1_0 a1_1 a2_0 a2_1 a3_0 a3_1 : Int) : Option Int := impl_meet.g ⟨a0_0, a0_1⟩ ⟨a1_0, a1_1⟩ ⟨a2_0, a2_1⟩ ⟨a3_0, a3_1⟩
def impl_meet.T19 : Bool × List (List Nat × List Nat) := (true, [([], []), ([], []), ([], []), ([0, 1, 2], [0, 1, 2]), ([3, 3], [3]), ([], []), ([], []), ([], []), ([5, 6, 7, 4], [5, 6, 7]), ([8, 8], [8]), ([4, 9], [4, 9]), ([10], [10]), ([11, 9], [11]), ([12], [12]), ([12], [12]), ([12], [12]), ([13, 14, 15, 12, 12], [12, 13, 14, 15]), ([16, 16, 12], [12, 16]), ([12], [12]), ([12], [12]), ([12], [12]), ([18, 19, 20, 17, 12], [12, 18, 19, 20]), ([21, 21, 12], [12, 21]), ([17, 22, 12], [12, 17, 22]), ([23, 12], [12, 23]), ([12, 24], [12, 24]), ([25, 22], [25])])
def impl_meet.B19 : List Nat := [0, 0, 0, 7, 15, 0, 0, 0, 255, 511, 1023, 2047, 4095, 8191, 8191, 8191, 65535, 131071, 8191, 8191, 8191, 2097151, 4194303, 8388607, 16777215, 33554431, 67108863]
theorem impl_meet.tab19 : rtab .any (opsOf Try.f70 19) = impl_meet.T19 := by kernel_rfl
theorem impl_meet.bits19 : waitsOk impl_meet.T19.2 impl_meet.B19 = true := by kernel_rfl
def impl_meet.qB (n m : Nat) : Array Bool := ((List.range n).map fun j => m.testBit j).toArray
def impl_meet.od0 : List Nat := [0, 1, 2, 5, 6, 7, 3, 4, 8, 9, 10, 11, 12, 13, 14, 15, 18, 19, 20, 16, 17, 21, 22, 23, 24, 25, 26]
def impl_meet.od1 : List Nat := [0, 1, 2, 5, 6, 7, 3, 4, 8, 9, 10, 11, 12, 13, 14, 15, 16, 17, 18, 19, 20, 21, 22, 23, 24, 25, 26]
set_option maxHeartbeats 8000000 in
set_option maxRecDepth 100000 in
theorem impl_meet.calls (a0_0 a0_1 a1_0 a1_1 a2_0 a2_1 a3_0 a3_1 : Int) (r : Int) (w : World) (h : impl_meet.f a0_0 a0_1 a1_0 a1_1 a2_0 a2_1 a3_0 a3_1 = some r) :
  Calls Try.prog 70 #[.agg #[.int .i64 a0_0, .int .i64 a0_1], .agg #[.int .i64 a1_0, .int .i64 a1_1], .agg #[.int .i64 a2_0, .int .i64 a2_1], .agg #[.int .i64 a3_0, .int .i64 a3_1]] w fun e w' => e = .returned (.int .i64 r) ∧ Below w.heap.size w w' := by
 have hu := Try.underlying25
 obtain ⟨XS, hXS, h2⟩ := Option.bind_eq_some_iff.mp h
 obtain ⟨YS, hYS, h3⟩ := Option.bind_eq_some_iff.mp h2
 have H := Aside0.mk h3
 have HXS := Aside0.mk hXS
 have HYS := Aside0.mk hYS
 clear h h2 h3 hXS hYS
 obtain ⟨W0, eW0, ok, v, hX⟩ := mt_start w ⟨a0_0, a0_1⟩ ⟨a1_0, a1_1⟩ ⟨a2_0, a2_1⟩ ⟨a3_0, a3_1⟩
 go_enter Try.func70, Try.ntmps70
 go_upto_region 2 with (fail)
 (try rw [eW0])
 clear eW0
 generalize w.heap.size + 1 + 1 + 1 + 1 + 1 = be at hX ⊢
 generalize w.heap.size + 1 + 1 + 1 + 1 = bn
 generalize w.heap.size + 1 + 1 + 1 = gd at hX ⊢
 generalize w.heap.size + 1 + 1 = gc at hX ⊢
 generalize w.heap.size + 1 = gb at hX ⊢
 obtain ⟨ga, hga⟩ : ∃ g, w.heap.size = g := ⟨_, rfl⟩
 rw [hga] at hX ⊢
 clear hga
 obtain ⟨hc0, hc1⟩ := mt_box (hX.k (gc, ptObj ⟨a2_0, a2_1⟩) (by simp)).1
 obtain ⟨hd0, hd1⟩ := mt_box (hX.k (gd, ptObj ⟨a3_0, a3_1⟩) (by simp)).1
 simp only at hc0 hc1 hd0 hd1
 have HX := Aside0.mk (hX.push (.cells #[.int .i64 a2_0, .int .i64 a2_1, .int .i64 a3_0, .int .i64 a3_1] 25))
 clear hX
 go_wp2
 generalize W0.alloc (.cells #[.int .i64 a2_0, .int .i64 a2_1, .int .i64 a3_0, .int .i64 a3_1] 25) = W1 at HX ⊢
 generalize W0.heap.size = bl at HX ⊢
 generalize (fun k => ok k ∧ k ≠ bl) = ok1 at HX
 clear hc0 hc1 hd0 hd1
 go_loopg [21] 2 (fun kq v21 w' => ∃ (i : Nat) (v : Value) (xs : List S25), v21 = .int .i64 (i : Int) ∧ Aside0 (kq + i = 2) ∧ Aside0 (xs.length ≤ i) ∧ Aside0 (MtX w w' be ok1 v xs [(bl, .cells #[.int .i64 a2_0, .int .i64 a2_1, .int .i64 a3_0, .int .i64 a3_1] 25 (0, 0)), (ga, ptObj ⟨a0_0, a0_1⟩), (gb, ptObj ⟨a1_0, a1_1⟩), (gc, ptObj ⟨a2_0, a2_1⟩), (gd, ptObj ⟨a3_0, a3_1⟩)]) ∧ Aside0 (mtAll (impl_meet.on ⟨a0_0, a0_1⟩ ⟨a1_0, a1_1⟩) (([⟨a2_0, a2_1⟩, ⟨a3_0, a3_1⟩] : List S25).drop i) xs = some XS))
 case atStart => exact ⟨0, v, [], rfl, ⟨by omega⟩, ⟨by simp⟩, HX, HXS⟩
 case round =>
  clear HX; obtain ⟨i, v, xs, rfl, HK, HL, HX, HR⟩ := hrel; by_cases c1 : i < 2
  ·have c1b : decide ((i : Int) < 2) = true := decide_eq_true (by omega)
   have c1c : ((i : Int) < 2) = True := eq_true (by omega); have c1d : (0 ≤ (i : Int)) = True := eq_true (by omega); obtain ⟨p, hp, hc0, hc1⟩ : ∃ p : S25, ([⟨a2_0, a2_1⟩, ⟨a3_0, a3_1⟩] : List S25).drop i = p :: ([⟨a2_0, a2_1⟩, ⟨a3_0, a3_1⟩] : List S25).drop (i + 1) ∧ wr.cell? ⟨bl, i * 2, none⟩ = some (.int .i64 p.f0) ∧ wr.cell? ⟨bl, i * 2 + 1, none⟩ = some (.int .i64 p.f1) :=
    mt_pair c1 (HX.out.k (bl, _) (by simp)).1
   have hR := HR.out; rw [hp] at hR; obtain ⟨bb, hbb, hR⟩ := Option.bind_eq_some_iff.mp hR; have HBB := Aside0.mk hbb; have HR2 := Aside0.mk hR; have C1 := Aside0.mk c1; clear hR hbb c1 HR hp; go_upto_region 6 with (fail)
   obtain ⟨b4, hb4⟩ : ∃ b_, wr.heap.size = b_ := ⟨_, rfl⟩; have ha4 := below_alloc (Below.refl wr.heap.size wr) (.cells #[.int .i64 p.f0, .int .i64 p.f1] 25); have hn4 := mt_new wr (.cells #[.int .i64 p.f0, .int .i64 p.f1] 25); clear hc0 hc1; rw [hb4] at hn4 ⊢; generalize wr.alloc (.cells #[.int .i64 p.f0, .int .i64 p.f1] 25) = w4 at ha4 hn4 ⊢; have HX4 := Aside0.mk (HX.out.below ha4); obtain ⟨hz0, hz1⟩ := mt_box hn4; obtain ⟨ha0, ha1⟩ := mt_box (HX4.out.k (ga, ptObj ⟨a0_0, a0_1⟩) (by simp)).1; obtain ⟨hb0, hb1⟩ := mt_box (HX4.out.k (gb, ptObj ⟨a1_0, a1_1⟩) (by simp)).1; simp only at ha0 ha1 hb0 hb1; have HN4 := Aside0.mk hn4; clear ha4 hn4 hb4 HX; cases bb with
   | false =>
    go_wp2_with (first | (go_at_call 105; refine (impl_isOn.calls a0_0 a0_1 a1_0 a1_1 p.f0 p.f1 false w4 HBB.out).mono ?_; rintro e w5 ⟨rfl, hb⟩; have HX5 := Aside0.mk (HX4.out.below hb); clear hb))
    go_roundg (gk - 1)
    case measure => have := HK.out; have := C1.out; omega
    case rel => exact ⟨i + 1, v, xs, mt_i64 (by have := C1.out; omega), ⟨by have := HK.out; have := C1.out; omega⟩, ⟨by have := HL.out; omega⟩, HX5, HR2⟩
   | true =>
    go_wp2_with (first | (go_at_call 105; refine (impl_isOn.calls a0_0 a0_1 a1_0 a1_1 p.f0 p.f1 true w4 HBB.out).mono ?_; rintro e w5 ⟨rfl, hb⟩; have HX5 := Aside0.mk (HX4.out.below hb); obtain ⟨hy0, hy1⟩ := mt_box ((hb.block b4 (mt_lt HN4.out)).trans HN4.out); clear hb) | (go_at_call 104; refine (mt_add w _ be ok1 v xs p HX5.out.i (by have := HL.out; have := C1.out; omega)).mono ?_; rintro e w6 ⟨rfl, v6, hI6, hF6, hown⟩; have HX6 := Aside0.mk (HX5.out.add hI6 hF6); clear hI6 hF6 hown))
    go_roundg (gk - 1)
    case measure => have := HK.out; have := C1.out; omega
    case rel => exact ⟨i + 1, v6, addPt xs p, mt_i64 (by have := C1.out; omega), ⟨by have := HK.out; have := C1.out; omega⟩, ⟨by have := HL.out; have := addPt_len xs p; omega⟩, HX6, HR2⟩
  ·have c1b : decide ((i : Int) < 2) = false := decide_eq_false (by omega)
   have c1n : decide (i < 2) = false := decide_eq_false c1; have hi : i = 2 := by have := HK.out; omega
   subst hi
   have HXE := Aside0.mk (Option.some.inj (show some xs = some XS from HR.out)); obtain ⟨ha0, ha1⟩ := mt_box (HX.out.k (ga, ptObj ⟨a0_0, a0_1⟩) (by simp)).1; obtain ⟨hb0, hb1⟩ := mt_box (HX.out.k (gb, ptObj ⟨a1_0, a1_1⟩) (by simp)).1; simp only at ha0 ha1 hb0 hb1; have HX2 := Aside0.mk (HX.out.push (.cells #[.int .i64 a0_0, .int .i64 a0_1, .int .i64 a1_0, .int .i64 a1_1] 25)); clear HX HR c1; go_wp2; generalize wr.alloc (.cells #[.int .i64 a0_0, .int .i64 a0_1, .int .i64 a1_0, .int .i64 a1_1] 25) = W2 at HX2 ⊢
   generalize wr.heap.size = bl2 at HX2 ⊢
   generalize (fun k => ok1 k ∧ k ≠ bl2) = ok2 at HX2
   clear ha0 ha1 hb0 hb1 c1b c1n; go_loopg [37] 2 (fun kq v37 w' => ∃ (i : Nat) (v : Value) (xs : List S25), v37 = .int .i64 (i : Int) ∧ Aside0 (kq + i = 2) ∧ Aside0 (xs.length ≤ 2 + i) ∧ Aside0 (MtX w w' be ok2 v xs [(bl2, .cells #[.int .i64 a0_0, .int .i64 a0_1, .int .i64 a1_0, .int .i64 a1_1] 25 (0, 0)), (bl, .cells #[.int .i64 a2_0, .int .i64 a2_1, .int .i64 a3_0, .int .i64 a3_1] 25 (0, 0)), (ga, ptObj ⟨a0_0, a0_1⟩), (gb, ptObj ⟨a1_0, a1_1⟩), (gc, ptObj ⟨a2_0, a2_1⟩), (gd, ptObj ⟨a3_0, a3_1⟩)]) ∧ Aside0 (mtAll (impl_meet.on ⟨a2_0, a2_1⟩ ⟨a3_0, a3_1⟩) (([⟨a0_0, a0_1⟩, ⟨a1_0, a1_1⟩] : List S25).drop i) xs = some YS))
   case atStart => exact ⟨0, v, xs, rfl, ⟨by omega⟩, ⟨by have := HL.out; omega⟩, HX2, ⟨by rw [HXE.out]; exact HYS.out⟩⟩
   case round =>
    clear HX2 HL HK; obtain ⟨i, v, xs, rfl, HK, HL, HX, HR⟩ := hrel; by_cases c1 : i < 2
    ·have c1b : decide ((i : Int) < 2) = true := decide_eq_true (by omega)
     have c1c : ((i : Int) < 2) = True := eq_true (by omega); have c1d : (0 ≤ (i : Int)) = True := eq_true (by omega); obtain ⟨p, hp, hc0, hc1⟩ : ∃ p : S25, ([⟨a0_0, a0_1⟩, ⟨a1_0, a1_1⟩] : List S25).drop i = p :: ([⟨a0_0, a0_1⟩, ⟨a1_0, a1_1⟩] : List S25).drop (i + 1) ∧ wr.cell? ⟨bl2, i * 2, none⟩ = some (.int .i64 p.f0) ∧ wr.cell? ⟨bl2, i * 2 + 1, none⟩ = some (.int .i64 p.f1) :=
      mt_pair c1 (HX.out.k (bl2, _) (by simp)).1
     have hR := HR.out; rw [hp] at hR; obtain ⟨bb, hbb, hR⟩ := Option.bind_eq_some_iff.mp hR; have HBB := Aside0.mk hbb; have HR2 := Aside0.mk hR; have C1 := Aside0.mk c1; clear hR hbb c1 HR hp; go_upto_region 12 with (fail)
     obtain ⟨b4, hb4⟩ : ∃ b_, wr.heap.size = b_ := ⟨_, rfl⟩; have ha4 := below_alloc (Below.refl wr.heap.size wr) (.cells #[.int .i64 p.f0, .int .i64 p.f1] 25); have hn4 := mt_new wr (.cells #[.int .i64 p.f0, .int .i64 p.f1] 25); clear hc0 hc1; rw [hb4] at hn4 ⊢; generalize wr.alloc (.cells #[.int .i64 p.f0, .int .i64 p.f1] 25) = w4 at ha4 hn4 ⊢; have HX4 := Aside0.mk (HX.out.below ha4); obtain ⟨hz0, hz1⟩ := mt_box hn4; obtain ⟨ha0, ha1⟩ := mt_box (HX4.out.k (gc, ptObj ⟨a2_0, a2_1⟩) (by simp)).1; obtain ⟨hb0, hb1⟩ := mt_box (HX4.out.k (gd, ptObj ⟨a3_0, a3_1⟩) (by simp)).1; simp only at ha0 ha1 hb0 hb1; have HN4 := Aside0.mk hn4; clear ha4 hn4 hb4 HX; cases bb with
     | false =>
      go_wp2_with (first | (go_at_call 105; refine (impl_isOn.calls a2_0 a2_1 a3_0 a3_1 p.f0 p.f1 false w4 HBB.out).mono ?_; rintro e w5 ⟨rfl, hb⟩; have HX5 := Aside0.mk (HX4.out.below hb); clear hb))
      go_roundg (gk - 1)
      case measure => have := HK.out; have := C1.out; omega
      case rel => exact ⟨i + 1, v, xs, mt_i64 (by have := C1.out; omega), ⟨by have := HK.out; have := C1.out; omega⟩, ⟨by have := HL.out; omega⟩, HX5, HR2⟩
     | true =>
      go_wp2_with (first | (go_at_call 105; refine (impl_isOn.calls a2_0 a2_1 a3_0 a3_1 p.f0 p.f1 true w4 HBB.out).mono ?_; rintro e w5 ⟨rfl, hb⟩; have HX5 := Aside0.mk (HX4.out.below hb); obtain ⟨hy0, hy1⟩ := mt_box ((hb.block b4 (mt_lt HN4.out)).trans HN4.out); clear hb) | (go_at_call 104; refine (mt_add w _ be ok2 v xs p HX5.out.i (by have := HL.out; have := C1.out; omega)).mono ?_; rintro e w6 ⟨rfl, v6, hI6, hF6, hown⟩; have HX6 := Aside0.mk (HX5.out.add hI6 hF6); clear hI6 hF6 hown))
      go_roundg (gk - 1)
      case measure => have := HK.out; have := C1.out; omega
      case rel => exact ⟨i + 1, v6, addPt xs p, mt_i64 (by have := C1.out; omega), ⟨by have := HK.out; have := C1.out; omega⟩, ⟨by have := HL.out; have := addPt_len xs p; omega⟩, HX6, HR2⟩
    ·have c1b : decide ((i : Int) < 2) = false := decide_eq_false (by omega)
     have c1n : decide (i < 2) = false := decide_eq_false c1; have hi : i = 2 := by have := HK.out; omega
     subst hi
     obtain rfl := Option.some.inj (show some xs = some YS from HR.out); obtain ⟨Av, cv, ev⟩ := Kd.R_slice HX.out.i.r; subst ev; obtain ⟨hx1, hx2⟩ := mt_cell HX.out.i.c; clear HR c1 HK HL; have hT := H.out; unfold impl_meet.tail at hT; by_cases c2 : (xs.length : Int) > 1
     ·rw [if_pos c2] at hT
      obtain rfl := Option.some.inj hT; have c2b : decide (1 < (xs.length : Int)) = true := decide_eq_true c2; have c2n : decide (1 < xs.length) = true := decide_eq_true (by omega); clear c2; go_wp2; go_ret
      exact ⟨rfl, HX.out.i.b⟩
     ·rw [if_neg c2] at hT
      have c2b : decide (1 < (xs.length : Int)) = false := decide_eq_false c2; have c2n : decide (1 < xs.length) = false := decide_eq_false (by omega); clear c2; by_cases c3 : (xs.length : Int) = 1
      ·rw [if_pos c3] at hT
       obtain rfl := Option.some.inj hT; have c3b : ((xs.length : Int) == 1) = true := beq_iff_eq.mpr c3; have c3n : (xs.length == 1) = true := beq_iff_eq.mpr (by omega); have c3d : decide ((xs.length : Int) = 1) = true := decide_eq_true c3; have c3e : decide (xs.length = 1) = true := decide_eq_true (by omega); clear c3; go_wp2; go_ret
       exact ⟨rfl, HX.out.i.b⟩
      ·rw [if_neg c3] at hT
       have c3b : ((xs.length : Int) == 1) = false := beq_eq_false_iff_ne.mpr c3; have c3n : (xs.length == 1) = false := beq_eq_false_iff_ne.mpr (by omega); have c3d : decide ((xs.length : Int) = 1) = false := decide_eq_false c3; have c3e : decide (xs.length = 1) = false := decide_eq_false (by omega); clear c3; obtain ⟨x1, X1_, hT⟩ := Option.bind_eq_some_iff.mp hT; obtain ⟨s1, S1_, hT⟩ := Option.bind_eq_some_iff.mp hT; obtain ⟨x2, X2_, hT⟩ := Option.bind_eq_some_iff.mp hT; obtain ⟨s2, S2_, hT⟩ := Option.bind_eq_some_iff.mp hT; have X1 := Aside0.mk X1_; have S1 := Aside0.mk S1_; have X2 := Aside0.mk X2_; have S2 := Aside0.mk S2_; clear X1_ S1_ X2_ S2_; simp only at X1 X2; obtain ⟨hq0, hq1⟩ := mt_box (HX.out.k (ga, ptObj ⟨a0_0, a0_1⟩) (by simp)).1; obtain ⟨hq2, hq3⟩ := mt_box (HX.out.k (gb, ptObj ⟨a1_0, a1_1⟩) (by simp)).1; obtain ⟨hq4, hq5⟩ := mt_box (HX.out.k (gc, ptObj ⟨a2_0, a2_1⟩) (by simp)).1; obtain ⟨hq6, hq7⟩ := mt_box (HX.out.k (gd, ptObj ⟨a3_0, a3_1⟩) (by simp)).1; simp only at hq0 hq1 hq2 hq3 hq4 hq5 hq6 hq7; by_cases c4 : wrap64 (s1 * s2) < 0
       ·rw [if_pos c4] at hT
        have c4b : decide (wrap64 (s1 * s2) < 0) = true := decide_eq_true c4; clear c4; obtain ⟨x3, X3_, hT⟩ := Option.bind_eq_some_iff.mp hT; obtain ⟨s3, S3_, hT⟩ := Option.bind_eq_some_iff.mp hT; obtain ⟨x4, X4_, hT⟩ := Option.bind_eq_some_iff.mp hT; obtain ⟨s4, S4_, hT⟩ := Option.bind_eq_some_iff.mp hT; have X3 := Aside0.mk X3_; have S3 := Aside0.mk S3_; have X4 := Aside0.mk X4_; have S4 := Aside0.mk S4_; clear X3_ S3_ X4_ S4_; simp only at X3 X4; by_cases c5 : wrap64 (s3 * s4) < 0
        ·rw [if_pos c5] at hT
         obtain rfl := Option.some.inj hT; have c5b : decide (wrap64 (s3 * s4) < 0) = true := decide_eq_true c5; clear c5 hT; go_wp2; refine start_ (n := 27) (S := fun w' => w'.cell? ⟨ga, 0, none⟩ = some (.int .i64 a0_0) ∧ w'.cell? ⟨ga, 1, none⟩ = some (.int .i64 a0_1) ∧ w'.cell? ⟨gb, 0, none⟩ = some (.int .i64 a1_0) ∧ w'.cell? ⟨gb, 1, none⟩ = some (.int .i64 a1_1) ∧ w'.cell? ⟨gc, 0, none⟩ = some (.int .i64 a2_0) ∧ w'.cell? ⟨gc, 1, none⟩ = some (.int .i64 a2_1) ∧ w'.cell? ⟨gd, 0, none⟩ = some (.int .i64 a3_0) ∧ w'.cell? ⟨gd, 1, none⟩ = some (.int .i64 a3_1)) (ds := []) (qE_ 27 impl_meet.od0 0) (by kernel_rfl) rfl rfl ⟨hq0, hq1, hq2, hq3, hq4, hq5, hq6, hq7⟩ (fun hHeld => ?_); refine with_tabW impl_meet.tab19 impl_meet.bits19 (fun HT_ HW_ => ?_); have HB := Aside0.mk (below_drew1 HX.out.i.b); clear HX; clear hq0 hq1 hq2 hq3 hq4 hq5 hq6 hq7; generalize wr.drew = w20 at HB hHeld ⊢; iterate 6 (refine gt_ HT_ HW_ hHeld ?zy ?zp ?_ (v := ?_) (a' := ?_); (case zy => rintro w' ⟨s0, s1, s2, s3, s4, s5, s6, s7⟩; go_simp; with_reducible rfl); (case zp => simp only [Act.put, List.setIfInBounds_toArray, List.set_cons_zero, List.set_cons_succ, i64_w, i32_w]; rfl))
         refine one_ (i := 3) (N := some 61) (qE_ 27 impl_meet.od0 7) rfl rfl (one_of HT_.out (by kernel_rfl)) (by decide) (fun K hK => ?_); refine goes_ Try.func38 (by kernel_rfl) rfl #[.agg #[.int .i64 a0_0, .int .i64 a0_1], .agg #[.int .i64 a1_0, .int .i64 a1_1], .agg #[.int .i64 a2_0, .int .i64 a2_1]] (by rfl) rfl rfl (by (try simp only [List.map_toArray, List.map_cons, List.map_nil]); first | done | rfl) ?_; with_reducible refine (impl_cross.calls a0_0 a0_1 a1_0 a1_1 a2_0 a2_1 x1 _ X1.out).mono ?_; rintro e w33 ⟨rfl, hb⟩
         have HS0_ := (hb.cell (World.block_lt_of_cell? _ _ (hHeld.1))).trans (hHeld.1); have HS1_ := (hb.cell (World.block_lt_of_cell? _ _ (hHeld.2.1))).trans (hHeld.2.1); have HS2_ := (hb.cell (World.block_lt_of_cell? _ _ (hHeld.2.2.1))).trans (hHeld.2.2.1); have HS3_ := (hb.cell (World.block_lt_of_cell? _ _ (hHeld.2.2.2.1))).trans (hHeld.2.2.2.1); have HS4_ := (hb.cell (World.block_lt_of_cell? _ _ (hHeld.2.2.2.2.1))).trans (hHeld.2.2.2.2.1); have HS5_ := (hb.cell (World.block_lt_of_cell? _ _ (hHeld.2.2.2.2.2.1))).trans (hHeld.2.2.2.2.2.1); have HS6_ := (hb.cell (World.block_lt_of_cell? _ _ (hHeld.2.2.2.2.2.2.1))).trans (hHeld.2.2.2.2.2.2.1); have HS7_ := (hb.cell (World.block_lt_of_cell? _ _ (hHeld.2.2.2.2.2.2.2))).trans (hHeld.2.2.2.2.2.2.2); refine ⟨_, rfl, ?_⟩; have n3_ := Aside0.mk (below_step HB.out hb); clear HB; have HB := n3_; clear n3_ hb; refine hK.out _ _ ⟨HS0_, HS1_, HS2_, HS3_, HS4_, HS5_, HS6_, HS7_⟩ (fun hHeld => ?_); clear HS0_ HS1_ HS2_ HS3_ HS4_ HS5_ HS6_ HS7_; clear hK K; refine norm_ (a' := ?_) ?_ ?_; rotate_left
         ·show Act.put _ (some 61) _ = _
          simp only [Act.put, List.setIfInBounds_toArray, List.set_cons_zero, List.set_cons_succ, i64_w, i32_w]; rfl
         refine one_ (i := 4) (N := some 62) (qE_ 27 impl_meet.od0 8) rfl rfl (one_of HT_.out (by kernel_rfl)) (by decide) (fun K hK => ?_); refine goes_ Try.func106 (by kernel_rfl) rfl #[.int .i64 x1] (by rfl) rfl rfl (by (try simp only [List.map_toArray, List.map_cons, List.map_nil]); first | done | rfl) ?_; with_reducible refine (impl_sign.calls x1 s1 _ S1.out).mono ?_; rintro e w' ⟨rfl, ⟨nd4, rfl⟩⟩
         refine ⟨_, rfl, ?_⟩; refine hK.out _ _ ⟨hHeld.1, hHeld.2.1, hHeld.2.2.1, hHeld.2.2.2.1, hHeld.2.2.2.2.1, hHeld.2.2.2.2.2.1, hHeld.2.2.2.2.2.2.1, hHeld.2.2.2.2.2.2.2⟩ (fun hHeld => ?_); clear hK K; refine norm_ (a' := ?_) ?_ ?_; rotate_left
         ·show Act.put _ (some 62) _ = _
          simp only [Act.put, List.setIfInBounds_toArray, List.set_cons_zero, List.set_cons_succ, i64_w, i32_w]; rfl
         refine one_ (i := 8) (N := some 66) (qE_ 27 impl_meet.od0 9) rfl rfl (one_of HT_.out (by kernel_rfl)) (by decide) (fun K hK => ?_); refine goes_ Try.func38 (by kernel_rfl) rfl #[.agg #[.int .i64 a0_0, .int .i64 a0_1], .agg #[.int .i64 a1_0, .int .i64 a1_1], .agg #[.int .i64 a3_0, .int .i64 a3_1]] (by rfl) rfl rfl (by (try simp only [List.map_toArray, List.map_cons, List.map_nil]); first | done | rfl) ?_; with_reducible refine (impl_cross.calls a0_0 a0_1 a1_0 a1_1 a3_0 a3_1 x2 _ X2.out).mono ?_; rintro e w38 ⟨rfl, hb⟩
         have HS0_ := (hb.cell (World.block_lt_of_cell? _ _ (hHeld.1))).trans (hHeld.1); have HS1_ := (hb.cell (World.block_lt_of_cell? _ _ (hHeld.2.1))).trans (hHeld.2.1); have HS2_ := (hb.cell (World.block_lt_of_cell? _ _ (hHeld.2.2.1))).trans (hHeld.2.2.1); have HS3_ := (hb.cell (World.block_lt_of_cell? _ _ (hHeld.2.2.2.1))).trans (hHeld.2.2.2.1); have HS4_ := (hb.cell (World.block_lt_of_cell? _ _ (hHeld.2.2.2.2.1))).trans (hHeld.2.2.2.2.1); have HS5_ := (hb.cell (World.block_lt_of_cell? _ _ (hHeld.2.2.2.2.2.1))).trans (hHeld.2.2.2.2.2.1); have HS6_ := (hb.cell (World.block_lt_of_cell? _ _ (hHeld.2.2.2.2.2.2.1))).trans (hHeld.2.2.2.2.2.2.1); have HS7_ := (hb.cell (World.block_lt_of_cell? _ _ (hHeld.2.2.2.2.2.2.2))).trans (hHeld.2.2.2.2.2.2.2); refine ⟨_, rfl, ?_⟩; have n3_ := Aside0.mk (below_step (by repeat (first | (with_reducible first | exact HB.out | apply below_alloc | apply pw_below_drewN | apply below_drew1) | exact HB.out)) hb); clear HB; have HB := n3_; clear n3_ hb; refine hK.out _ _ ⟨HS0_, HS1_, HS2_, HS3_, HS4_, HS5_, HS6_, HS7_⟩ (fun hHeld => ?_); clear HS0_ HS1_ HS2_ HS3_ HS4_ HS5_ HS6_ HS7_; clear hK K; refine norm_ (a' := ?_) ?_ ?_; rotate_left
         ·show Act.put _ (some 66) _ = _
          simp only [Act.put, List.setIfInBounds_toArray, List.set_cons_zero, List.set_cons_succ, i64_w, i32_w]; rfl
         refine one_ (i := 9) (N := some 67) (qE_ 27 impl_meet.od0 10) rfl rfl (one_of HT_.out (by kernel_rfl)) (by decide) (fun K hK => ?_); refine goes_ Try.func106 (by kernel_rfl) rfl #[.int .i64 x2] (by rfl) rfl rfl (by (try simp only [List.map_toArray, List.map_cons, List.map_nil]); first | done | rfl) ?_; with_reducible refine (impl_sign.calls x2 s2 _ S2.out).mono ?_; rintro e w' ⟨rfl, ⟨nd9, rfl⟩⟩
         refine ⟨_, rfl, ?_⟩; refine hK.out _ _ ⟨hHeld.1, hHeld.2.1, hHeld.2.2.1, hHeld.2.2.2.1, hHeld.2.2.2.2.1, hHeld.2.2.2.2.2.1, hHeld.2.2.2.2.2.2.1, hHeld.2.2.2.2.2.2.2⟩ (fun hHeld => ?_); clear hK K; refine norm_ (a' := ?_) ?_ ?_; rotate_left
         ·show Act.put _ (some 67) _ = _
          simp only [Act.put, List.setIfInBounds_toArray, List.set_cons_zero, List.set_cons_succ, i64_w, i32_w]; rfl
         iterate 9 (first | (refine gz_ HT_ ?zy ?zp ?_ (v := ?_) (a' := ?_); (case zy => intro w'; go_simp; with_reducible rfl); (case zp => simp only [Act.put, List.setIfInBounds_toArray, List.set_cons_zero, List.set_cons_succ, i64_w, i32_w]; rfl)) | (refine gt_ HT_ HW_ hHeld ?zy ?zp ?_ (v := ?_) (a' := ?_); (case zy => rintro w' ⟨s0, s1, s2, s3, s4, s5, s6, s7⟩; go_simp; with_reducible rfl); (case zp => simp only [Act.put, List.setIfInBounds_toArray, List.set_cons_zero, List.set_cons_succ, i64_w, i32_w]; rfl)))
         refine one_ (i := 16) (N := some 74) (qE_ 27 impl_meet.od0 20) rfl rfl (one_of HT_.out (by kernel_rfl)) (by decide) (fun K hK => ?_); refine goes_ Try.func38 (by kernel_rfl) rfl #[.agg #[.int .i64 a2_0, .int .i64 a2_1], .agg #[.int .i64 a3_0, .int .i64 a3_1], .agg #[.int .i64 a0_0, .int .i64 a0_1]] (by rfl) rfl rfl (by (try simp only [List.map_toArray, List.map_cons, List.map_nil]); first | done | rfl) ?_; with_reducible refine (impl_cross.calls a2_0 a2_1 a3_0 a3_1 a0_0 a0_1 x3 _ X3.out).mono ?_; rintro e w46 ⟨rfl, hb⟩
         have HS0_ := (hb.cell (World.block_lt_of_cell? _ _ (hHeld.1))).trans (hHeld.1); have HS1_ := (hb.cell (World.block_lt_of_cell? _ _ (hHeld.2.1))).trans (hHeld.2.1); have HS2_ := (hb.cell (World.block_lt_of_cell? _ _ (hHeld.2.2.1))).trans (hHeld.2.2.1); have HS3_ := (hb.cell (World.block_lt_of_cell? _ _ (hHeld.2.2.2.1))).trans (hHeld.2.2.2.1); have HS4_ := (hb.cell (World.block_lt_of_cell? _ _ (hHeld.2.2.2.2.1))).trans (hHeld.2.2.2.2.1); have HS5_ := (hb.cell (World.block_lt_of_cell? _ _ (hHeld.2.2.2.2.2.1))).trans (hHeld.2.2.2.2.2.1); have HS6_ := (hb.cell (World.block_lt_of_cell? _ _ (hHeld.2.2.2.2.2.2.1))).trans (hHeld.2.2.2.2.2.2.1); have HS7_ := (hb.cell (World.block_lt_of_cell? _ _ (hHeld.2.2.2.2.2.2.2))).trans (hHeld.2.2.2.2.2.2.2); refine ⟨_, rfl, ?_⟩; have n3_ := Aside0.mk (below_step (by repeat (first | (with_reducible first | exact HB.out | apply below_alloc | apply pw_below_drewN | apply below_drew1) | exact HB.out)) hb); clear HB; have HB := n3_; clear n3_ hb; refine hK.out _ _ ⟨HS0_, HS1_, HS2_, HS3_, HS4_, HS5_, HS6_, HS7_⟩ (fun hHeld => ?_); clear HS0_ HS1_ HS2_ HS3_ HS4_ HS5_ HS6_ HS7_; clear hK K; refine norm_ (a' := ?_) ?_ ?_; rotate_left
         ·show Act.put _ (some 74) _ = _
          simp only [Act.put, List.setIfInBounds_toArray, List.set_cons_zero, List.set_cons_succ, i64_w, i32_w]; rfl
         refine one_ (i := 17) (N := some 75) (qE_ 27 impl_meet.od0 21) rfl rfl (one_of HT_.out (by kernel_rfl)) (by decide) (fun K hK => ?_); refine goes_ Try.func106 (by kernel_rfl) rfl #[.int .i64 x3] (by rfl) rfl rfl (by (try simp only [List.map_toArray, List.map_cons, List.map_nil]); first | done | rfl) ?_; with_reducible refine (impl_sign.calls x3 s3 _ S3.out).mono ?_; rintro e w' ⟨rfl, ⟨nd17, rfl⟩⟩
         refine ⟨_, rfl, ?_⟩; refine hK.out _ _ ⟨hHeld.1, hHeld.2.1, hHeld.2.2.1, hHeld.2.2.2.1, hHeld.2.2.2.2.1, hHeld.2.2.2.2.2.1, hHeld.2.2.2.2.2.2.1, hHeld.2.2.2.2.2.2.2⟩ (fun hHeld => ?_); clear hK K; refine norm_ (a' := ?_) ?_ ?_; rotate_left
         ·show Act.put _ (some 75) _ = _
          simp only [Act.put, List.setIfInBounds_toArray, List.set_cons_zero, List.set_cons_succ, i64_w, i32_w]; rfl
         refine one_ (i := 21) (N := some 79) (qE_ 27 impl_meet.od0 22) rfl rfl (one_of HT_.out (by kernel_rfl)) (by decide) (fun K hK => ?_); refine goes_ Try.func38 (by kernel_rfl) rfl #[.agg #[.int .i64 a2_0, .int .i64 a2_1], .agg #[.int .i64 a3_0, .int .i64 a3_1], .agg #[.int .i64 a1_0, .int .i64 a1_1]] (by rfl) rfl rfl (by (try simp only [List.map_toArray, List.map_cons, List.map_nil]); first | done | rfl) ?_; with_reducible refine (impl_cross.calls a2_0 a2_1 a3_0 a3_1 a1_0 a1_1 x4 _ X4.out).mono ?_; rintro e w51 ⟨rfl, hb⟩
         have HS0_ := (hb.cell (World.block_lt_of_cell? _ _ (hHeld.1))).trans (hHeld.1); have HS1_ := (hb.cell (World.block_lt_of_cell? _ _ (hHeld.2.1))).trans (hHeld.2.1); have HS2_ := (hb.cell (World.block_lt_of_cell? _ _ (hHeld.2.2.1))).trans (hHeld.2.2.1); have HS3_ := (hb.cell (World.block_lt_of_cell? _ _ (hHeld.2.2.2.1))).trans (hHeld.2.2.2.1); have HS4_ := (hb.cell (World.block_lt_of_cell? _ _ (hHeld.2.2.2.2.1))).trans (hHeld.2.2.2.2.1); have HS5_ := (hb.cell (World.block_lt_of_cell? _ _ (hHeld.2.2.2.2.2.1))).trans (hHeld.2.2.2.2.2.1); have HS6_ := (hb.cell (World.block_lt_of_cell? _ _ (hHeld.2.2.2.2.2.2.1))).trans (hHeld.2.2.2.2.2.2.1); have HS7_ := (hb.cell (World.block_lt_of_cell? _ _ (hHeld.2.2.2.2.2.2.2))).trans (hHeld.2.2.2.2.2.2.2); refine ⟨_, rfl, ?_⟩; have n3_ := Aside0.mk (below_step (by repeat (first | (with_reducible first | exact HB.out | apply below_alloc | apply pw_below_drewN | apply below_drew1) | exact HB.out)) hb); clear HB; have HB := n3_; clear n3_ hb; refine hK.out _ _ ⟨HS0_, HS1_, HS2_, HS3_, HS4_, HS5_, HS6_, HS7_⟩ (fun hHeld => ?_); clear HS0_ HS1_ HS2_ HS3_ HS4_ HS5_ HS6_ HS7_; clear hK K; refine norm_ (a' := ?_) ?_ ?_; rotate_left
         ·show Act.put _ (some 79) _ = _
          simp only [Act.put, List.setIfInBounds_toArray, List.set_cons_zero, List.set_cons_succ, i64_w, i32_w]; rfl
         refine one_ (i := 22) (N := some 80) (qE_ 27 impl_meet.od0 23) rfl rfl (one_of HT_.out (by kernel_rfl)) (by decide) (fun K hK => ?_); refine goes_ Try.func106 (by kernel_rfl) rfl #[.int .i64 x4] (by rfl) rfl rfl (by (try simp only [List.map_toArray, List.map_cons, List.map_nil]); first | done | rfl) ?_; with_reducible refine (impl_sign.calls x4 s4 _ S4.out).mono ?_; rintro e w' ⟨rfl, ⟨nd22, rfl⟩⟩
         refine ⟨_, rfl, ?_⟩; refine hK.out _ _ ⟨hHeld.1, hHeld.2.1, hHeld.2.2.1, hHeld.2.2.2.1, hHeld.2.2.2.2.1, hHeld.2.2.2.2.2.1, hHeld.2.2.2.2.2.2.1, hHeld.2.2.2.2.2.2.2⟩ (fun hHeld => ?_); clear hK K; refine norm_ (a' := ?_) ?_ ?_; rotate_left
         ·show Act.put _ (some 80) _ = _
          simp only [Act.put, List.setIfInBounds_toArray, List.set_cons_zero, List.set_cons_succ, i64_w, i32_w]; rfl
         iterate 4 (refine gz_ HT_ ?zy ?zp ?_ (v := ?_) (a' := ?_); (case zy => intro w'; go_simp; with_reducible rfl); (case zp => simp only [Act.put, List.setIfInBounds_toArray, List.set_cons_zero, List.set_cons_succ, i64_w, i32_w]; rfl))
         refine done_ (done_of HT_.out (by kernel_rfl)) ?_; try go_wp2; go_ret
         exact ⟨rfl, by with_reducible repeat (first | exact HB.out | apply below_alloc | apply pw_below_drewN | apply below_drew1)⟩
        ·rw [if_neg c5] at hT
         obtain rfl := Option.some.inj hT; have c5b : decide (wrap64 (s3 * s4) < 0) = false := decide_eq_false c5; clear c5 hT; go_wp2; refine start_ (n := 27) (S := fun w' => w'.cell? ⟨ga, 0, none⟩ = some (.int .i64 a0_0) ∧ w'.cell? ⟨ga, 1, none⟩ = some (.int .i64 a0_1) ∧ w'.cell? ⟨gb, 0, none⟩ = some (.int .i64 a1_0) ∧ w'.cell? ⟨gb, 1, none⟩ = some (.int .i64 a1_1) ∧ w'.cell? ⟨gc, 0, none⟩ = some (.int .i64 a2_0) ∧ w'.cell? ⟨gc, 1, none⟩ = some (.int .i64 a2_1) ∧ w'.cell? ⟨gd, 0, none⟩ = some (.int .i64 a3_0) ∧ w'.cell? ⟨gd, 1, none⟩ = some (.int .i64 a3_1)) (ds := []) (qE_ 27 impl_meet.od0 0) (by kernel_rfl) rfl rfl ⟨hq0, hq1, hq2, hq3, hq4, hq5, hq6, hq7⟩ (fun hHeld => ?_); refine with_tabW impl_meet.tab19 impl_meet.bits19 (fun HT_ HW_ => ?_); have HB := Aside0.mk (below_drew1 HX.out.i.b); clear HX; clear hq0 hq1 hq2 hq3 hq4 hq5 hq6 hq7; generalize wr.drew = w20 at HB hHeld ⊢; iterate 6 (refine gt_ HT_ HW_ hHeld ?zy ?zp ?_ (v := ?_) (a' := ?_); (case zy => rintro w' ⟨s0, s1, s2, s3, s4, s5, s6, s7⟩; go_simp; with_reducible rfl); (case zp => simp only [Act.put, List.setIfInBounds_toArray, List.set_cons_zero, List.set_cons_succ, i64_w, i32_w]; rfl))
         refine one_ (i := 3) (N := some 61) (qE_ 27 impl_meet.od0 7) rfl rfl (one_of HT_.out (by kernel_rfl)) (by decide) (fun K hK => ?_); refine goes_ Try.func38 (by kernel_rfl) rfl #[.agg #[.int .i64 a0_0, .int .i64 a0_1], .agg #[.int .i64 a1_0, .int .i64 a1_1], .agg #[.int .i64 a2_0, .int .i64 a2_1]] (by rfl) rfl rfl (by (try simp only [List.map_toArray, List.map_cons, List.map_nil]); first | done | rfl) ?_; with_reducible refine (impl_cross.calls a0_0 a0_1 a1_0 a1_1 a2_0 a2_1 x1 _ X1.out).mono ?_; rintro e w33 ⟨rfl, hb⟩
         have HS0_ := (hb.cell (World.block_lt_of_cell? _ _ (hHeld.1))).trans (hHeld.1); have HS1_ := (hb.cell (World.block_lt_of_cell? _ _ (hHeld.2.1))).trans (hHeld.2.1); have HS2_ := (hb.cell (World.block_lt_of_cell? _ _ (hHeld.2.2.1))).trans (hHeld.2.2.1); have HS3_ := (hb.cell (World.block_lt_of_cell? _ _ (hHeld.2.2.2.1))).trans (hHeld.2.2.2.1); have HS4_ := (hb.cell (World.block_lt_of_cell? _ _ (hHeld.2.2.2.2.1))).trans (hHeld.2.2.2.2.1); have HS5_ := (hb.cell (World.block_lt_of_cell? _ _ (hHeld.2.2.2.2.2.1))).trans (hHeld.2.2.2.2.2.1); have HS6_ := (hb.cell (World.block_lt_of_cell? _ _ (hHeld.2.2.2.2.2.2.1))).trans (hHeld.2.2.2.2.2.2.1); have HS7_ := (hb.cell (World.block_lt_of_cell? _ _ (hHeld.2.2.2.2.2.2.2))).trans (hHeld.2.2.2.2.2.2.2); refine ⟨_, rfl, ?_⟩; have n3_ := Aside0.mk (below_step HB.out hb); clear HB; have HB := n3_; clear n3_ hb; refine hK.out _ _ ⟨HS0_, HS1_, HS2_, HS3_, HS4_, HS5_, HS6_, HS7_⟩ (fun hHeld => ?_); clear HS0_ HS1_ HS2_ HS3_ HS4_ HS5_ HS6_ HS7_; clear hK K; refine norm_ (a' := ?_) ?_ ?_; rotate_left
         ·show Act.put _ (some 61) _ = _
          simp only [Act.put, List.setIfInBounds_toArray, List.set_cons_zero, List.set_cons_succ, i64_w, i32_w]; rfl
         refine one_ (i := 4) (N := some 62) (qE_ 27 impl_meet.od0 8) rfl rfl (one_of HT_.out (by kernel_rfl)) (by decide) (fun K hK => ?_); refine goes_ Try.func106 (by kernel_rfl) rfl #[.int .i64 x1] (by rfl) rfl rfl (by (try simp only [List.map_toArray, List.map_cons, List.map_nil]); first | done | rfl) ?_; with_reducible refine (impl_sign.calls x1 s1 _ S1.out).mono ?_; rintro e w' ⟨rfl, ⟨nd4, rfl⟩⟩
         refine ⟨_, rfl, ?_⟩; refine hK.out _ _ ⟨hHeld.1, hHeld.2.1, hHeld.2.2.1, hHeld.2.2.2.1, hHeld.2.2.2.2.1, hHeld.2.2.2.2.2.1, hHeld.2.2.2.2.2.2.1, hHeld.2.2.2.2.2.2.2⟩ (fun hHeld => ?_); clear hK K; refine norm_ (a' := ?_) ?_ ?_; rotate_left
         ·show Act.put _ (some 62) _ = _
          simp only [Act.put, List.setIfInBounds_toArray, List.set_cons_zero, List.set_cons_succ, i64_w, i32_w]; rfl
         refine one_ (i := 8) (N := some 66) (qE_ 27 impl_meet.od0 9) rfl rfl (one_of HT_.out (by kernel_rfl)) (by decide) (fun K hK => ?_); refine goes_ Try.func38 (by kernel_rfl) rfl #[.agg #[.int .i64 a0_0, .int .i64 a0_1], .agg #[.int .i64 a1_0, .int .i64 a1_1], .agg #[.int .i64 a3_0, .int .i64 a3_1]] (by rfl) rfl rfl (by (try simp only [List.map_toArray, List.map_cons, List.map_nil]); first | done | rfl) ?_; with_reducible refine (impl_cross.calls a0_0 a0_1 a1_0 a1_1 a3_0 a3_1 x2 _ X2.out).mono ?_; rintro e w38 ⟨rfl, hb⟩
         have HS0_ := (hb.cell (World.block_lt_of_cell? _ _ (hHeld.1))).trans (hHeld.1); have HS1_ := (hb.cell (World.block_lt_of_cell? _ _ (hHeld.2.1))).trans (hHeld.2.1); have HS2_ := (hb.cell (World.block_lt_of_cell? _ _ (hHeld.2.2.1))).trans (hHeld.2.2.1); have HS3_ := (hb.cell (World.block_lt_of_cell? _ _ (hHeld.2.2.2.1))).trans (hHeld.2.2.2.1); have HS4_ := (hb.cell (World.block_lt_of_cell? _ _ (hHeld.2.2.2.2.1))).trans (hHeld.2.2.2.2.1); have HS5_ := (hb.cell (World.block_lt_of_cell? _ _ (hHeld.2.2.2.2.2.1))).trans (hHeld.2.2.2.2.2.1); have HS6_ := (hb.cell (World.block_lt_of_cell? _ _ (hHeld.2.2.2.2.2.2.1))).trans (hHeld.2.2.2.2.2.2.1); have HS7_ := (hb.cell (World.block_lt_of_cell? _ _ (hHeld.2.2.2.2.2.2.2))).trans (hHeld.2.2.2.2.2.2.2); refine ⟨_, rfl, ?_⟩; have n3_ := Aside0.mk (below_step (by repeat (first | (with_reducible first | exact HB.out | apply below_alloc | apply pw_below_drewN | apply below_drew1) | exact HB.out)) hb); clear HB; have HB := n3_; clear n3_ hb; refine hK.out _ _ ⟨HS0_, HS1_, HS2_, HS3_, HS4_, HS5_, HS6_, HS7_⟩ (fun hHeld => ?_); clear HS0_ HS1_ HS2_ HS3_ HS4_ HS5_ HS6_ HS7_; clear hK K; refine norm_ (a' := ?_) ?_ ?_; rotate_left
         ·show Act.put _ (some 66) _ = _
          simp only [Act.put, List.setIfInBounds_toArray, List.set_cons_zero, List.set_cons_succ, i64_w, i32_w]; rfl
         refine one_ (i := 9) (N := some 67) (qE_ 27 impl_meet.od0 10) rfl rfl (one_of HT_.out (by kernel_rfl)) (by decide) (fun K hK => ?_); refine goes_ Try.func106 (by kernel_rfl) rfl #[.int .i64 x2] (by rfl) rfl rfl (by (try simp only [List.map_toArray, List.map_cons, List.map_nil]); first | done | rfl) ?_; with_reducible refine (impl_sign.calls x2 s2 _ S2.out).mono ?_; rintro e w' ⟨rfl, ⟨nd9, rfl⟩⟩
         refine ⟨_, rfl, ?_⟩; refine hK.out _ _ ⟨hHeld.1, hHeld.2.1, hHeld.2.2.1, hHeld.2.2.2.1, hHeld.2.2.2.2.1, hHeld.2.2.2.2.2.1, hHeld.2.2.2.2.2.2.1, hHeld.2.2.2.2.2.2.2⟩ (fun hHeld => ?_); clear hK K; refine norm_ (a' := ?_) ?_ ?_; rotate_left
         ·show Act.put _ (some 67) _ = _
          simp only [Act.put, List.setIfInBounds_toArray, List.set_cons_zero, List.set_cons_succ, i64_w, i32_w]; rfl
         iterate 9 (first | (refine gz_ HT_ ?zy ?zp ?_ (v := ?_) (a' := ?_); (case zy => intro w'; go_simp; with_reducible rfl); (case zp => simp only [Act.put, List.setIfInBounds_toArray, List.set_cons_zero, List.set_cons_succ, i64_w, i32_w]; rfl)) | (refine gt_ HT_ HW_ hHeld ?zy ?zp ?_ (v := ?_) (a' := ?_); (case zy => rintro w' ⟨s0, s1, s2, s3, s4, s5, s6, s7⟩; go_simp; with_reducible rfl); (case zp => simp only [Act.put, List.setIfInBounds_toArray, List.set_cons_zero, List.set_cons_succ, i64_w, i32_w]; rfl)))
         refine one_ (i := 16) (N := some 74) (qE_ 27 impl_meet.od0 20) rfl rfl (one_of HT_.out (by kernel_rfl)) (by decide) (fun K hK => ?_); refine goes_ Try.func38 (by kernel_rfl) rfl #[.agg #[.int .i64 a2_0, .int .i64 a2_1], .agg #[.int .i64 a3_0, .int .i64 a3_1], .agg #[.int .i64 a0_0, .int .i64 a0_1]] (by rfl) rfl rfl (by (try simp only [List.map_toArray, List.map_cons, List.map_nil]); first | done | rfl) ?_; with_reducible refine (impl_cross.calls a2_0 a2_1 a3_0 a3_1 a0_0 a0_1 x3 _ X3.out).mono ?_; rintro e w46 ⟨rfl, hb⟩
         have HS0_ := (hb.cell (World.block_lt_of_cell? _ _ (hHeld.1))).trans (hHeld.1); have HS1_ := (hb.cell (World.block_lt_of_cell? _ _ (hHeld.2.1))).trans (hHeld.2.1); have HS2_ := (hb.cell (World.block_lt_of_cell? _ _ (hHeld.2.2.1))).trans (hHeld.2.2.1); have HS3_ := (hb.cell (World.block_lt_of_cell? _ _ (hHeld.2.2.2.1))).trans (hHeld.2.2.2.1); have HS4_ := (hb.cell (World.block_lt_of_cell? _ _ (hHeld.2.2.2.2.1))).trans (hHeld.2.2.2.2.1); have HS5_ := (hb.cell (World.block_lt_of_cell? _ _ (hHeld.2.2.2.2.2.1))).trans (hHeld.2.2.2.2.2.1); have HS6_ := (hb.cell (World.block_lt_of_cell? _ _ (hHeld.2.2.2.2.2.2.1))).trans (hHeld.2.2.2.2.2.2.1); have HS7_ := (hb.cell (World.block_lt_of_cell? _ _ (hHeld.2.2.2.2.2.2.2))).trans (hHeld.2.2.2.2.2.2.2); refine ⟨_, rfl, ?_⟩; have n3_ := Aside0.mk (below_step (by repeat (first | (with_reducible first | exact HB.out | apply below_alloc | apply pw_below_drewN | apply below_drew1) | exact HB.out)) hb); clear HB; have HB := n3_; clear n3_ hb; refine hK.out _ _ ⟨HS0_, HS1_, HS2_, HS3_, HS4_, HS5_, HS6_, HS7_⟩ (fun hHeld => ?_); clear HS0_ HS1_ HS2_ HS3_ HS4_ HS5_ HS6_ HS7_; clear hK K; refine norm_ (a' := ?_) ?_ ?_; rotate_left
         ·show Act.put _ (some 74) _ = _
          simp only [Act.put, List.setIfInBounds_toArray, List.set_cons_zero, List.set_cons_succ, i64_w, i32_w]; rfl
         refine one_ (i := 17) (N := some 75) (qE_ 27 impl_meet.od0 21) rfl rfl (one_of HT_.out (by kernel_rfl)) (by decide) (fun K hK => ?_); refine goes_ Try.func106 (by kernel_rfl) rfl #[.int .i64 x3] (by rfl) rfl rfl (by (try simp only [List.map_toArray, List.map_cons, List.map_nil]); first | done | rfl) ?_; with_reducible refine (impl_sign.calls x3 s3 _ S3.out).mono ?_; rintro e w' ⟨rfl, ⟨nd17, rfl⟩⟩
         refine ⟨_, rfl, ?_⟩; refine hK.out _ _ ⟨hHeld.1, hHeld.2.1, hHeld.2.2.1, hHeld.2.2.2.1, hHeld.2.2.2.2.1, hHeld.2.2.2.2.2.1, hHeld.2.2.2.2.2.2.1, hHeld.2.2.2.2.2.2.2⟩ (fun hHeld => ?_); clear hK K; refine norm_ (a' := ?_) ?_ ?_; rotate_left
         ·show Act.put _ (some 75) _ = _
          simp only [Act.put, List.setIfInBounds_toArray, List.set_cons_zero, List.set_cons_succ, i64_w, i32_w]; rfl
         refine one_ (i := 21) (N := some 79) (qE_ 27 impl_meet.od0 22) rfl rfl (one_of HT_.out (by kernel_rfl)) (by decide) (fun K hK => ?_); refine goes_ Try.func38 (by kernel_rfl) rfl #[.agg #[.int .i64 a2_0, .int .i64 a2_1], .agg #[.int .i64 a3_0, .int .i64 a3_1], .agg #[.int .i64 a1_0, .int .i64 a1_1]] (by rfl) rfl rfl (by (try simp only [List.map_toArray, List.map_cons, List.map_nil]); first | done | rfl) ?_; with_reducible refine (impl_cross.calls a2_0 a2_1 a3_0 a3_1 a1_0 a1_1 x4 _ X4.out).mono ?_; rintro e w51 ⟨rfl, hb⟩
         have HS0_ := (hb.cell (World.block_lt_of_cell? _ _ (hHeld.1))).trans (hHeld.1); have HS1_ := (hb.cell (World.block_lt_of_cell? _ _ (hHeld.2.1))).trans (hHeld.2.1); have HS2_ := (hb.cell (World.block_lt_of_cell? _ _ (hHeld.2.2.1))).trans (hHeld.2.2.1); have HS3_ := (hb.cell (World.block_lt_of_cell? _ _ (hHeld.2.2.2.1))).trans (hHeld.2.2.2.1); have HS4_ := (hb.cell (World.block_lt_of_cell? _ _ (hHeld.2.2.2.2.1))).trans (hHeld.2.2.2.2.1); have HS5_ := (hb.cell (World.block_lt_of_cell? _ _ (hHeld.2.2.2.2.2.1))).trans (hHeld.2.2.2.2.2.1); have HS6_ := (hb.cell (World.block_lt_of_cell? _ _ (hHeld.2.2.2.2.2.2.1))).trans (hHeld.2.2.2.2.2.2.1); have HS7_ := (hb.cell (World.block_lt_of_cell? _ _ (hHeld.2.2.2.2.2.2.2))).trans (hHeld.2.2.2.2.2.2.2); refine ⟨_, rfl, ?_⟩; have n3_ := Aside0.mk (below_step (by repeat (first | (with_reducible first | exact HB.out | apply below_alloc | apply pw_below_drewN | apply below_drew1) | exact HB.out)) hb); clear HB; have HB := n3_; clear n3_ hb; refine hK.out _ _ ⟨HS0_, HS1_, HS2_, HS3_, HS4_, HS5_, HS6_, HS7_⟩ (fun hHeld => ?_); clear HS0_ HS1_ HS2_ HS3_ HS4_ HS5_ HS6_ HS7_; clear hK K; refine norm_ (a' := ?_) ?_ ?_; rotate_left
         ·show Act.put _ (some 79) _ = _
          simp only [Act.put, List.setIfInBounds_toArray, List.set_cons_zero, List.set_cons_succ, i64_w, i32_w]; rfl
         refine one_ (i := 22) (N := some 80) (qE_ 27 impl_meet.od0 23) rfl rfl (one_of HT_.out (by kernel_rfl)) (by decide) (fun K hK => ?_); refine goes_ Try.func106 (by kernel_rfl) rfl #[.int .i64 x4] (by rfl) rfl rfl (by (try simp only [List.map_toArray, List.map_cons, List.map_nil]); first | done | rfl) ?_; with_reducible refine (impl_sign.calls x4 s4 _ S4.out).mono ?_; rintro e w' ⟨rfl, ⟨nd22, rfl⟩⟩
         refine ⟨_, rfl, ?_⟩; refine hK.out _ _ ⟨hHeld.1, hHeld.2.1, hHeld.2.2.1, hHeld.2.2.2.1, hHeld.2.2.2.2.1, hHeld.2.2.2.2.2.1, hHeld.2.2.2.2.2.2.1, hHeld.2.2.2.2.2.2.2⟩ (fun hHeld => ?_); clear hK K; refine norm_ (a' := ?_) ?_ ?_; rotate_left
         ·show Act.put _ (some 80) _ = _
          simp only [Act.put, List.setIfInBounds_toArray, List.set_cons_zero, List.set_cons_succ, i64_w, i32_w]; rfl
         iterate 4 (refine gz_ HT_ ?zy ?zp ?_ (v := ?_) (a' := ?_); (case zy => intro w'; go_simp; with_reducible rfl); (case zp => simp only [Act.put, List.setIfInBounds_toArray, List.set_cons_zero, List.set_cons_succ, i64_w, i32_w]; rfl))
         refine done_ (done_of HT_.out (by kernel_rfl)) ?_; try go_wp2; go_ret
         exact ⟨rfl, by with_reducible repeat (first | exact HB.out | apply below_alloc | apply pw_below_drewN | apply below_drew1)⟩
       ·rw [if_neg c4] at hT
        obtain rfl := Option.some.inj hT; have c4b : decide (wrap64 (s1 * s2) < 0) = false := decide_eq_false c4; clear c4 hT; go_wp2; refine start_ (n := 27) (S := fun w' => w'.cell? ⟨ga, 0, none⟩ = some (.int .i64 a0_0) ∧ w'.cell? ⟨ga, 1, none⟩ = some (.int .i64 a0_1) ∧ w'.cell? ⟨gb, 0, none⟩ = some (.int .i64 a1_0) ∧ w'.cell? ⟨gb, 1, none⟩ = some (.int .i64 a1_1) ∧ w'.cell? ⟨gc, 0, none⟩ = some (.int .i64 a2_0) ∧ w'.cell? ⟨gc, 1, none⟩ = some (.int .i64 a2_1) ∧ w'.cell? ⟨gd, 0, none⟩ = some (.int .i64 a3_0) ∧ w'.cell? ⟨gd, 1, none⟩ = some (.int .i64 a3_1)) (ds := []) (qE_ 27 impl_meet.od1 0) (by kernel_rfl) rfl rfl ⟨hq0, hq1, hq2, hq3, hq4, hq5, hq6, hq7⟩ (fun hHeld => ?_); refine with_tabW impl_meet.tab19 impl_meet.bits19 (fun HT_ HW_ => ?_); have HB := Aside0.mk (below_drew1 HX.out.i.b); clear HX; clear hq0 hq1 hq2 hq3 hq4 hq5 hq6 hq7; generalize wr.drew = w20 at HB hHeld ⊢; iterate 6 (refine gt_ HT_ HW_ hHeld ?zy ?zp ?_ (v := ?_) (a' := ?_); (case zy => rintro w' ⟨s0, s1, s2, s3, s4, s5, s6, s7⟩; go_simp; with_reducible rfl); (case zp => simp only [Act.put, List.setIfInBounds_toArray, List.set_cons_zero, List.set_cons_succ, i64_w, i32_w]; rfl))
        refine one_ (i := 3) (N := some 61) (qE_ 27 impl_meet.od1 7) rfl rfl (one_of HT_.out (by kernel_rfl)) (by decide) (fun K hK => ?_); refine goes_ Try.func38 (by kernel_rfl) rfl #[.agg #[.int .i64 a0_0, .int .i64 a0_1], .agg #[.int .i64 a1_0, .int .i64 a1_1], .agg #[.int .i64 a2_0, .int .i64 a2_1]] (by rfl) rfl rfl (by (try simp only [List.map_toArray, List.map_cons, List.map_nil]); first | done | rfl) ?_; with_reducible refine (impl_cross.calls a0_0 a0_1 a1_0 a1_1 a2_0 a2_1 x1 _ X1.out).mono ?_; rintro e w33 ⟨rfl, hb⟩
        have HS0_ := (hb.cell (World.block_lt_of_cell? _ _ (hHeld.1))).trans (hHeld.1); have HS1_ := (hb.cell (World.block_lt_of_cell? _ _ (hHeld.2.1))).trans (hHeld.2.1); have HS2_ := (hb.cell (World.block_lt_of_cell? _ _ (hHeld.2.2.1))).trans (hHeld.2.2.1); have HS3_ := (hb.cell (World.block_lt_of_cell? _ _ (hHeld.2.2.2.1))).trans (hHeld.2.2.2.1); have HS4_ := (hb.cell (World.block_lt_of_cell? _ _ (hHeld.2.2.2.2.1))).trans (hHeld.2.2.2.2.1); have HS5_ := (hb.cell (World.block_lt_of_cell? _ _ (hHeld.2.2.2.2.2.1))).trans (hHeld.2.2.2.2.2.1); have HS6_ := (hb.cell (World.block_lt_of_cell? _ _ (hHeld.2.2.2.2.2.2.1))).trans (hHeld.2.2.2.2.2.2.1); have HS7_ := (hb.cell (World.block_lt_of_cell? _ _ (hHeld.2.2.2.2.2.2.2))).trans (hHeld.2.2.2.2.2.2.2); refine ⟨_, rfl, ?_⟩; have n3_ := Aside0.mk (below_step HB.out hb); clear HB; have HB := n3_; clear n3_ hb; refine hK.out _ _ ⟨HS0_, HS1_, HS2_, HS3_, HS4_, HS5_, HS6_, HS7_⟩ (fun hHeld => ?_); clear HS0_ HS1_ HS2_ HS3_ HS4_ HS5_ HS6_ HS7_; clear hK K; refine norm_ (a' := ?_) ?_ ?_; rotate_left
        ·show Act.put _ (some 61) _ = _
         simp only [Act.put, List.setIfInBounds_toArray, List.set_cons_zero, List.set_cons_succ, i64_w, i32_w]; rfl
        refine one_ (i := 4) (N := some 62) (qE_ 27 impl_meet.od1 8) rfl rfl (one_of HT_.out (by kernel_rfl)) (by decide) (fun K hK => ?_); refine goes_ Try.func106 (by kernel_rfl) rfl #[.int .i64 x1] (by rfl) rfl rfl (by (try simp only [List.map_toArray, List.map_cons, List.map_nil]); first | done | rfl) ?_; with_reducible refine (impl_sign.calls x1 s1 _ S1.out).mono ?_; rintro e w' ⟨rfl, ⟨nd4, rfl⟩⟩
        refine ⟨_, rfl, ?_⟩; refine hK.out _ _ ⟨hHeld.1, hHeld.2.1, hHeld.2.2.1, hHeld.2.2.2.1, hHeld.2.2.2.2.1, hHeld.2.2.2.2.2.1, hHeld.2.2.2.2.2.2.1, hHeld.2.2.2.2.2.2.2⟩ (fun hHeld => ?_); clear hK K; refine norm_ (a' := ?_) ?_ ?_; rotate_left
        ·show Act.put _ (some 62) _ = _
         simp only [Act.put, List.setIfInBounds_toArray, List.set_cons_zero, List.set_cons_succ, i64_w, i32_w]; rfl
        refine one_ (i := 8) (N := some 66) (qE_ 27 impl_meet.od1 9) rfl rfl (one_of HT_.out (by kernel_rfl)) (by decide) (fun K hK => ?_); refine goes_ Try.func38 (by kernel_rfl) rfl #[.agg #[.int .i64 a0_0, .int .i64 a0_1], .agg #[.int .i64 a1_0, .int .i64 a1_1], .agg #[.int .i64 a3_0, .int .i64 a3_1]] (by rfl) rfl rfl (by (try simp only [List.map_toArray, List.map_cons, List.map_nil]); first | done | rfl) ?_; with_reducible refine (impl_cross.calls a0_0 a0_1 a1_0 a1_1 a3_0 a3_1 x2 _ X2.out).mono ?_; rintro e w38 ⟨rfl, hb⟩
        have HS0_ := (hb.cell (World.block_lt_of_cell? _ _ (hHeld.1))).trans (hHeld.1); have HS1_ := (hb.cell (World.block_lt_of_cell? _ _ (hHeld.2.1))).trans (hHeld.2.1); have HS2_ := (hb.cell (World.block_lt_of_cell? _ _ (hHeld.2.2.1))).trans (hHeld.2.2.1); have HS3_ := (hb.cell (World.block_lt_of_cell? _ _ (hHeld.2.2.2.1))).trans (hHeld.2.2.2.1); have HS4_ := (hb.cell (World.block_lt_of_cell? _ _ (hHeld.2.2.2.2.1))).trans (hHeld.2.2.2.2.1); have HS5_ := (hb.cell (World.block_lt_of_cell? _ _ (hHeld.2.2.2.2.2.1))).trans (hHeld.2.2.2.2.2.1); have HS6_ := (hb.cell (World.block_lt_of_cell? _ _ (hHeld.2.2.2.2.2.2.1))).trans (hHeld.2.2.2.2.2.2.1); have HS7_ := (hb.cell (World.block_lt_of_cell? _ _ (hHeld.2.2.2.2.2.2.2))).trans (hHeld.2.2.2.2.2.2.2); refine ⟨_, rfl, ?_⟩; have n3_ := Aside0.mk (below_step (by repeat (first | (with_reducible first | exact HB.out | apply below_alloc | apply pw_below_drewN | apply below_drew1) | exact HB.out)) hb); clear HB; have HB := n3_; clear n3_ hb; refine hK.out _ _ ⟨HS0_, HS1_, HS2_, HS3_, HS4_, HS5_, HS6_, HS7_⟩ (fun hHeld => ?_); clear HS0_ HS1_ HS2_ HS3_ HS4_ HS5_ HS6_ HS7_; clear hK K; refine norm_ (a' := ?_) ?_ ?_; rotate_left
        ·show Act.put _ (some 66) _ = _
         simp only [Act.put, List.setIfInBounds_toArray, List.set_cons_zero, List.set_cons_succ, i64_w, i32_w]; rfl
        refine one_ (i := 9) (N := some 67) (qE_ 27 impl_meet.od1 10) rfl rfl (one_of HT_.out (by kernel_rfl)) (by decide) (fun K hK => ?_); refine goes_ Try.func106 (by kernel_rfl) rfl #[.int .i64 x2] (by rfl) rfl rfl (by (try simp only [List.map_toArray, List.map_cons, List.map_nil]); first | done | rfl) ?_; with_reducible refine (impl_sign.calls x2 s2 _ S2.out).mono ?_; rintro e w' ⟨rfl, ⟨nd9, rfl⟩⟩
        refine ⟨_, rfl, ?_⟩; refine hK.out _ _ ⟨hHeld.1, hHeld.2.1, hHeld.2.2.1, hHeld.2.2.2.1, hHeld.2.2.2.2.1, hHeld.2.2.2.2.2.1, hHeld.2.2.2.2.2.2.1, hHeld.2.2.2.2.2.2.2⟩ (fun hHeld => ?_); clear hK K; refine norm_ (a' := ?_) ?_ ?_; rotate_left
        ·show Act.put _ (some 67) _ = _
         simp only [Act.put, List.setIfInBounds_toArray, List.set_cons_zero, List.set_cons_succ, i64_w, i32_w]; rfl
        iterate 17 (first | (refine gz_ HT_ ?zy ?zp ?_ (v := ?_) (a' := ?_); (case zy => intro w'; go_simp; with_reducible rfl); (case zp => simp only [Act.put, List.setIfInBounds_toArray, List.set_cons_zero, List.set_cons_succ, i64_w, i32_w]; rfl)) | (refine gu_ HT_ ?zp ?_ (a' := ?_); (case zp => simp only [Act.put, List.setIfInBounds_toArray, List.set_cons_zero, List.set_cons_succ, i64_w, i32_w]; rfl)))
        refine done_ (done_of HT_.out (by kernel_rfl)) ?_; try go_wp2; go_ret
        exact ⟨rfl, by with_reducible repeat (first | exact HB.out | apply below_alloc | apply pw_below_drewN | apply below_drew1)⟩

end Go.Proofs.Ytihnhpohbpfkmaa.XFnColors
