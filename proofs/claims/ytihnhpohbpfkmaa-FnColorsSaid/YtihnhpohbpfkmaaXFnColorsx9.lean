/- What functions of the program compute, as plain Lean functions, and that Go's calls come to just that: written by wip/tools/xprint.py for the law FnColors. -/
import Derived.Test.YtihnhpohbpfkmaaXFnColorsx0
import Derived.Test.YtihnhpohbpfkmaaXFnColorsx2
import Derived.Test.YtihnhpohbpfkmaaXFnColorsx3
import Derived.Test.YtihnhpohbpfkmaaXFnColorsx5
import Derived.Test.YtihnhpohbpfkmaaXFnColorsx6
import Derived.Test.YtihnhpohbpfkmaaXFnColorsx7
import Derived.Test.YtihnhpohbpfkmaaXFnColorsx8
namespace Go.Proofs.Ytihnhpohbpfkmaa.XFnColors
open Go.RowKit Go.Proofs.YtihnhpohbpfkmaaW.PrintWords Go.Proofs.YtihnhpohbpfkmaaW.PrintLast Go.Proofs.YtihnhpohbpfkmaaW.PrintMore
attribute [local go_sem] max2_int min2_int max_two min_two max_three min_three max_four min_four   -- for this text's walks alone
set_option linter.unusedVariables false
set_option linter.unusedSimpArgs false

/-! ### impl_isIn: function 107 -/
/-! isIn: a point within corners -/
def inTest (a b x : S25) (odd : Bool) : Option Bool := if a.f1 ≤ x.f1 then if x.f1 < b.f1 then (impl_cross.f a.f0 a.f1 b.f0 b.f1 x.f0 x.f1).bind fun c => some (if c > 0 then !odd else odd) else some odd else some odd
def inSide (a b x : S25) (odd : Bool) : Option Bool := if a.f1 > b.f1 then inTest b a x odd else inTest a b x odd
def inLoop (p : List S25) (x : S25) : Nat → Nat → Bool → Option Bool
 | 0, _, odd => some odd
 | m + 1, i, odd => (impl_isOn.f (rd_T25 p (i : Int)).f0 (rd_T25 p (i : Int)).f1 (rd_T25 p (((i + 1) % p.length : Nat) : Int)).f0 (rd_T25 p (((i + 1) % p.length : Nat) : Int)).f1 x.f0 x.f1).bind fun o => if o = true then some true else (inSide (rd_T25 p (i : Int)) (rd_T25 p (((i + 1) % p.length : Nat) : Int)) x odd).bind fun od => inLoop p x m (i + 1) od
def impl_isIn.f (l : List S25) (x0 x1 : Int) : Option Bool := if 3 ≤ l.length ∧ l.length ≤ 10 then inLoop l ⟨x0, x1⟩ l.length 0 false else none
/-- The boxes: of a, b and x. -/
structure InW (w W : World) (ga gb gx : Nat) (a b x : S25) : Prop where
 below : Below w.heap.size w W
 la : w.heap.size ≤ ga
 lb : w.heap.size ≤ gb
 lx : w.heap.size ≤ gx
 ab : ga ≠ gb
 ax : gx ≠ ga
 bx : gx ≠ gb
 ha : W.heap[ga]? = some (.cells #[.int .i64 a.f0, .int .i64 a.f1] 25 (0, 0))
 hb : W.heap[gb]? = some (.cells #[.int .i64 b.f0, .int .i64 b.f1] 25 (0, 0))
 hx : W.heap[gx]? = some (.cells #[.int .i64 x.f0, .int .i64 x.f1] 25 (0, 0))
theorem in_new (W : World) (o : Obj) {n : Nat} (h : W.heap.size = n) : (W.alloc o).heap[n]? = some o := by
 subst h
 show (W.heap.push _)[W.heap.size]? = _
 simp
theorem in_size (W : World) (o : Obj) : (W.alloc o).heap.size = W.heap.size + 1 := by show (W.heap.push _).size = _; simp
theorem in_cell {W : World} {g : Nat} {v0 v1 : Value} {t : Nat} (h : W.heap[g]? = some (.cells #[v0, v1] t (0, 0))) : W.cell? ⟨g, 0, none⟩ = some v0 ∧ W.cell? ⟨g, 1, none⟩ = some v1 := by
 constructor <;> (unfold World.cell?; rw [h]; rfl)
theorem InW.step {w W W' : World} {ga gb gx : Nat} {a b x : S25} (H : InW w W ga gb gx a b x) (hb : Below W.heap.size W W') : InW w W' ga gb gx a b x :=
 ⟨below_step H.below hb, H.la, H.lb, H.lx, H.ab, H.ax, H.bx, (hb.block _ (Array.getElem?_eq_some_iff.1 H.ha).1).trans H.ha, (hb.block _ (Array.getElem?_eq_some_iff.1 H.hb).1).trans H.hb, (hb.block _ (Array.getElem?_eq_some_iff.1 H.hx).1).trans H.hx⟩
theorem InW.swap {w W : World} {ga gb gx : Nat} {a b x : S25} (H : InW w W ga gb gx a b x) : InW w ((((W.setCell ⟨ga, 0, none⟩ (.int .i64 b.f0)).setCell ⟨ga, 1, none⟩ (.int .i64 b.f1)).setCell ⟨gb, 0, none⟩ (.int .i64 a.f0)).setCell ⟨gb, 1, none⟩ (.int .i64 a.f1)) ga gb gx b a x := by
 refine ⟨below_set (below_set (below_set (below_set H.below H.la) H.la) H.lb) H.lb, H.la, H.lb, H.lx, H.ab, H.ax, H.bx, ?_, ?_, ?_⟩
 ·rw [heap_setCell_other _ _ _ _ H.ab, heap_setCell_other _ _ _ _ H.ab, heap_setCell_same _ ga 1 _ _ _ (heap_setCell_same W ga 0 _ _ _ H.ha)]
  rfl
 ·have hb : ((W.setCell ⟨ga, 0, none⟩ (.int .i64 b.f0)).setCell ⟨ga, 1, none⟩ (.int .i64 b.f1)).heap[gb]? = some (.cells #[.int .i64 b.f0, .int .i64 b.f1] 25 (0, 0)) := by
   rw [heap_setCell_other _ _ _ _ H.ab.symm, heap_setCell_other _ _ _ _ H.ab.symm]; exact H.hb
  rw [heap_setCell_same _ gb 1 _ _ _ (heap_setCell_same _ gb 0 _ _ _ hb)]; rfl
 ·rw [heap_setCell_other _ _ _ _ H.bx, heap_setCell_other _ _ _ _ H.bx, heap_setCell_other _ _ _ _ H.ax, heap_setCell_other _ _ _ _ H.ax]
  exact H.hx
structure InX (w W : World) (gx : Nat) (x : S25) : Prop where
 below : Below w.heap.size w W
 lx : w.heap.size ≤ gx
 hx : W.heap[gx]? = some (.cells #[.int .i64 x.f0, .int .i64 x.f1] 25 (0, 0))
/-- With the box of a. -/
structure InY (w W : World) (ga gx : Nat) (a x : S25) : Prop where
 below : Below w.heap.size w W
 la : w.heap.size ≤ ga
 lx : w.heap.size ≤ gx
 ax : gx ≠ ga
 ha : W.heap[ga]? = some (.cells #[.int .i64 a.f0, .int .i64 a.f1] 25 (0, 0))
 hx : W.heap[gx]? = some (.cells #[.int .i64 x.f0, .int .i64 x.f1] 25 (0, 0))
theorem InW.toX {w W : World} {ga gb gx : Nat} {a b x : S25} (H : InW w W ga gb gx a b x) : InX w W gx x := ⟨H.below, H.lx, H.hx⟩
theorem InY.start {w W : World} {gx : Nat} {x : S25} (a : S25) (H : InX w W gx x) : InY w (W.alloc (.cells #[.int .i64 a.f0, .int .i64 a.f1] 25)) W.heap.size gx a x := by
 have h1 := below_alloc (Below.refl W.heap.size W) (.cells #[.int .i64 a.f0, .int .i64 a.f1] 25)
 have lt := (Array.getElem?_eq_some_iff.1 H.hx).1
 exact ⟨below_step H.below h1, H.below.size, H.lx, by omega, in_new _ _ rfl, (h1.block _ lt).trans H.hx⟩
theorem InY.next {w W : World} {ga gx : Nat} {a x : S25} (b : S25) (H : InY w W ga gx a x) : InW w (W.alloc (.cells #[.int .i64 b.f0, .int .i64 b.f1] 25)) ga W.heap.size gx a b x := by
 have h1 := below_alloc (Below.refl W.heap.size W) (.cells #[.int .i64 b.f0, .int .i64 b.f1] 25)
 have lt := (Array.getElem?_eq_some_iff.1 H.hx).1
 have lta := (Array.getElem?_eq_some_iff.1 H.ha).1
 exact ⟨below_step H.below h1, H.la, H.below.size, H.lx, by omega, H.ax, by omega, (h1.block _ lta).trans H.ha, in_new _ _ rfl, (h1.block _ lt).trans H.hx⟩
set_option maxHeartbeats 16000000 in
set_option maxRecDepth 100000 in
theorem impl_isIn.calls (A0 : Option Addr) (c0 : Nat) (l0 : List S25) (a1_0 a1_1 : Int) (r : Bool) (w : World) (hr0 : Kd.C k25 w A0 l0.length l0) (hc0 : l0.length ≤ c0) (h : impl_isIn.f l0 a1_0 a1_1 = some r) :
  Calls Try.prog 107 #[.slice A0 l0.length c0, .agg #[.int .i64 a1_0, .int .i64 a1_1]] w fun e w' => e = .returned (.bool r) ∧ Below w.heap.size w w' := by
 have hu := Try.underlying25
 unfold impl_isIn.f at h
 by_cases hn : 3 ≤ l0.length ∧ l0.length ≤ 10
 rotate_left
 ·rw [if_neg hn] at h; cases h
 rw [if_pos hn] at h
 have HN := Aside0.mk hn
 have H := Aside0.mk h
 have HR := Aside0.mk hr0
 have HX0 : Aside0 (InX w (w.alloc (.cells #[.int .i64 a1_0, .int .i64 a1_1] 25)) w.heap.size ⟨a1_0, a1_1⟩) := ⟨below_alloc (Below.refl _ _) _, Nat.le_refl _, in_new _ _ rfl⟩
 clear hn h hr0 hc0
 go_enter Try.func107, Try.ntmps107
 go_wp2
 generalize w.alloc (.cells #[.int .i64 a1_0, .int .i64 a1_1] 25) = W0 at HX0 ⊢
 generalize hgx : w.heap.size = gx at HX0 ⊢
 clear hgx
 go_loopg [5, 11] l0.length (fun q v5 v11 w' => ∃ (i : Nat) (odd : Bool), v5 = .bool odd ∧ v11 = .int .i64 (i : Int) ∧ Aside0 (i + q = l0.length) ∧ Aside0 (inLoop l0 ⟨a1_0, a1_1⟩ q i odd = some r) ∧ Aside0 (InX w w' gx ⟨a1_0, a1_1⟩))
 case atStart => exact ⟨0, false, rfl, rfl, ⟨by omega⟩, H, HX0⟩
 case round =>
  clear H HX0; obtain ⟨i, odd, rfl, rfl, HI, H, HX⟩ := hrel; rcases gk with _ | q1
  · have h2 := H.out
    rw [inLoop] at h2; obtain rfl := Option.some.inj h2; have ci0 : ((i : Int) < (l0.length : Int)) = False := eq_false (by have := HI.out; omega); have ci1 : decide ((i : Int) < (l0.length : Int)) = false := decide_eq_false (by have := HI.out; omega); have ci2 : (i < l0.length) = False := eq_false (by have := HI.out; omega); clear h2; go_wp2
    go_ret
    exact ⟨rfl, HX.out.below⟩
  have h2 := H.out; rw [inLoop] at h2; obtain ⟨o, ho, h2⟩ := Option.bind_eq_some_iff.mp h2; have HO := Aside0.mk ho; have HF0 := Aside0.mk h2; have hlt : i < l0.length := by have := HI.out; omega
  have hn := HN.out; have e1 : wrap64 ((i : Int) + 1) = ((i + 1 : Nat) : Int) := by unfold wrap64; omega
  have e2 : Int.tmod (wrap64 ((i : Int) + 1)) (l0.length : Int) = (((i + 1) % l0.length : Nat) : Int) := by rw [e1]; exact (Int.ofNat_tmod _ _).symm
  have hm := Nat.mod_lt (i + 1) (show 0 < l0.length by omega); generalize (i + 1) % l0.length = jn at e2 hm HO HF0
  obtain ⟨ad, ea, hp0, hp1⟩ := at_T25 HR.out (i : Int) (by omega) (by omega); obtain ⟨ad2, eb, hq0, hq1⟩ := at_T25 HR.out (jn : Int) (by omega) (by omega); obtain rfl : ad = ad2 := by rw [ea] at eb; injection eb
  subst ea
  have hp2 := it_cell HX.out.below hp0; have hp3 := it_cell HX.out.below hp1; have hq2 := it_cell HX.out.below hq0; have hq3 := it_cell HX.out.below hq1; (try simp only [Int.toNat_natCast] at hp2 hp3 hq2 hq3); have ci0 : ((i : Int) < (l0.length : Int)) = True := eq_true (by omega); have ci1 : decide ((i : Int) < (l0.length : Int)) = true := decide_eq_true (by omega); have ci2 : (0 ≤ (i : Int)) = True := eq_true (by omega); have ci3 : (0 ≤ (jn : Int)) = True := eq_true (by omega); have ci4 : ((jn : Int) < (l0.length : Int)) = True := eq_true (by omega); have ci5 : ((l0.length : Int) = 0) = False := eq_false (by omega); have ci6 : ((l0.length : Int) == 0) = false := beq_eq_false_iff_ne.mpr (by omega); have ci7 : (l0 = []) = False := eq_false (fun e => by rw [e] at hlt; exact absurd hlt (by simp)); have ci8 : (jn < l0.length) = True := eq_true hm; have E1 := Aside0.mk e1; clear h2 ho H hlt hn e1 hm eb hp0 hp1 hq0 hq1; generalize rd_T25 l0 (i : Int) = pa at hp2 hp3 HO HF0
  generalize rd_T25 l0 (jn : Int) = pb at hq2 hq3 HO HF0
  have hq4 := it_cell (below_alloc (Below.refl wr.heap.size wr) (.cells #[.int .i64 pa.f0, .int .i64 pa.f1] 25)) hq2; have hq5 := it_cell (below_alloc (Below.refl wr.heap.size wr) (.cells #[.int .i64 pa.f0, .int .i64 pa.f1] 25)) hq3; go_upto_region 5 with (fail)
  have HY := Aside0.mk (InY.start pa HX.out); clear HX hp2 hp3 hq2 hq3; generalize wr.alloc (.cells #[.int .i64 pa.f0, .int .i64 pa.f1] 25) = Wa at HY hq4 hq5 ⊢
  generalize wr.heap.size = ga at HY ⊢
  go_upto_region 6 with (fail)
  have HW := Aside0.mk (InY.next pb HY.out); clear HY hq4 hq5 ci2 ci3 ci4 ci5 ci6 ci7 ci8 e2; generalize Wa.alloc (.cells #[.int .i64 pb.f0, .int .i64 pb.f1] 25) = W1 at HW ⊢
  generalize Wa.heap.size = gb at HW ⊢
  as_aux_lemma =>
   obtain ⟨xa0, xa1⟩ := in_cell HW.out.ha; obtain ⟨xb0, xb1⟩ := in_cell HW.out.hb; obtain ⟨xx0, xx1⟩ := in_cell HW.out.hx; cases o with
   | true =>
     obtain rfl := Option.some.inj (show some true = some r from by have h_ := HF0.out; rw [if_pos rfl] at h_; exact h_); go_wp2_with (first | (go_at_call 105; (with_reducible refine (impl_isOn.calls pa.f0 pa.f1 pb.f0 pb.f1 a1_0 a1_1 true _ HO.out).mono ?_); rintro e w27 ⟨rfl, hb⟩; have HW2 := Aside0.mk (HW.out.step hb); clear hb))
     go_ret
     exact ⟨rfl, HW2.out.below⟩
   | false =>
     have h2 := HF0.out; rw [if_neg (by simp)] at h2; obtain ⟨od, hod, h2⟩ := Option.bind_eq_some_iff.mp h2; have HF := Aside0.mk h2; unfold inSide at hod
     clear HF0 h2; go_upto_region 8 with (first | (go_at_call 105; (with_reducible refine (impl_isOn.calls pa.f0 pa.f1 pb.f0 pb.f1 a1_0 a1_1 false _ HO.out).mono ?_); rintro e w27 ⟨rfl, hb⟩; have HW2 := Aside0.mk (HW.out.step hb); clear hb))
     clear xa0 xa1 xb0 xb1 xx0 xx1 HW; as_aux_lemma =>
      obtain ⟨xa0, xa1⟩ := in_cell HW2.out.ha; obtain ⟨xb0, xb1⟩ := in_cell HW2.out.hb; obtain ⟨xx0, xx1⟩ := in_cell HW2.out.hx; by_cases c0 : pa.f1 > pb.f1
      ·rw [if_pos c0] at hod
       have HOD := Aside0.mk hod; have d0 : decide (pb.f1 < pa.f1) = true := decide_eq_true c0; have fa0 := blk_frozen HW2.out.ha 0; have fa1 := blk_frozen HW2.out.ha 1; have fb0 := blk_frozen HW2.out.hb 0; have fb1 := blk_frozen HW2.out.hb 1; have nab : (ga = gb) = False := eq_false HW2.out.ab; have nba : (gb = ga) = False := eq_false HW2.out.ab.symm; clear hod c0; go_upto_region 10 with (fail)
       have HW3 := Aside0.mk HW2.out.swap; clear xa0 xa1 xb0 xb1 xx0 xx1 HW2 fa0 fa1 fb0 fb1 nab nba d0; generalize (((w27.setCell ⟨ga, 0, none⟩ (.int .i64 pb.f0)).setCell ⟨ga, 1, none⟩ (.int .i64 pb.f1)).setCell ⟨gb, 0, none⟩ (.int .i64 pa.f0)).setCell ⟨gb, 1, none⟩ (.int .i64 pa.f1) = W3 at HW3 ⊢
       as_aux_lemma =>
        obtain ⟨xa0, xa1⟩ := in_cell HW3.out.ha; obtain ⟨xb0, xb1⟩ := in_cell HW3.out.hb; obtain ⟨xx0, xx1⟩ := in_cell HW3.out.hx; have hod2 : inTest pb pa ⟨a1_0, a1_1⟩ odd = some od := HOD.out; unfold inTest at hod2
        clear HOD; by_cases c1 : pb.f1 ≤ a1_1
        rotate_left
        ·rw [if_neg c1] at hod2
         obtain rfl := Option.some.inj hod2; have d1 : decide (pb.f1 ≤ a1_1) = false := decide_eq_false c1; clear hod2 c1; go_wp2
         go_roundg q1
         case measure => exact Nat.lt_succ_self _
         case rel => exact ⟨i + 1, odd, rfl, congrArg _ E1.out, ⟨by have := HI.out; omega⟩, HF, ⟨HW3.out.toX⟩⟩
        have d1 : decide (pb.f1 ≤ a1_1) = true := decide_eq_true c1; rw [if_pos c1] at hod2; by_cases c2 : a1_1 < pa.f1
        rotate_left
        ·rw [if_neg c2] at hod2
         obtain rfl := Option.some.inj hod2; have d2 : decide (a1_1 < pa.f1) = false := decide_eq_false c2; clear hod2 c1 c2; go_wp2
         go_roundg q1
         case measure => exact Nat.lt_succ_self _
         case rel => exact ⟨i + 1, odd, rfl, congrArg _ E1.out, ⟨by have := HI.out; omega⟩, HF, ⟨HW3.out.toX⟩⟩
        have d2 : decide (a1_1 < pa.f1) = true := decide_eq_true c2; rw [if_pos c2] at hod2; obtain ⟨c, hc, hod2⟩ := Option.bind_eq_some_iff.mp hod2; have HC := Aside0.mk hc; have ho := Option.some.inj hod2; have HOE := Aside0.mk ho; clear c1 c2 hc hod2 ho; by_cases c3 : c > 0
        ·have d3 : decide (0 < c) = true := decide_eq_true c3
         obtain rfl : (!odd) = od := by have h_ := HOE.out; rw [if_pos c3] at h_; exact h_
         clear c3; go_wp2_with (first | (go_at_call 38; (with_reducible refine (impl_cross.calls pb.f0 pb.f1 pa.f0 pa.f1 a1_0 a1_1 c _ HC.out).mono ?_); rintro e w51 ⟨rfl, hb5⟩; have HW9 := Aside0.mk (HW3.out.step hb5); clear hb5))
         go_roundg q1
         case measure => exact Nat.lt_succ_self _
         case rel => exact ⟨i + 1, !odd, rfl, congrArg _ E1.out, ⟨by have := HI.out; omega⟩, HF, ⟨HW9.out.toX⟩⟩
        ·have d3 : decide (0 < c) = false := decide_eq_false c3
         obtain rfl : odd = od := by have h_ := HOE.out; rw [if_neg c3] at h_; exact h_
         clear c3; go_wp2_with (first | (go_at_call 38; (with_reducible refine (impl_cross.calls pb.f0 pb.f1 pa.f0 pa.f1 a1_0 a1_1 c _ HC.out).mono ?_); rintro e w51 ⟨rfl, hb5⟩; have HW9 := Aside0.mk (HW3.out.step hb5); clear hb5))
         go_roundg q1
         case measure => exact Nat.lt_succ_self _
         case rel => exact ⟨i + 1, odd, rfl, congrArg _ E1.out, ⟨by have := HI.out; omega⟩, HF, ⟨HW9.out.toX⟩⟩
      ·rw [if_neg c0] at hod
       have HOD := Aside0.mk hod; have d0 : decide (pb.f1 < pa.f1) = false := decide_eq_false c0; clear hod c0; go_upto_region 10 with (fail)
       as_aux_lemma =>
        have hod2 : inTest pa pb ⟨a1_0, a1_1⟩ odd = some od := HOD.out; unfold inTest at hod2
        clear HOD; by_cases c1 : pa.f1 ≤ a1_1
        rotate_left
        ·rw [if_neg c1] at hod2
         obtain rfl := Option.some.inj hod2; have d1 : decide (pa.f1 ≤ a1_1) = false := decide_eq_false c1; clear hod2 c1; go_wp2
         go_roundg q1
         case measure => exact Nat.lt_succ_self _
         case rel => exact ⟨i + 1, odd, rfl, congrArg _ E1.out, ⟨by have := HI.out; omega⟩, HF, ⟨HW2.out.toX⟩⟩
        have d1 : decide (pa.f1 ≤ a1_1) = true := decide_eq_true c1; rw [if_pos c1] at hod2; by_cases c2 : a1_1 < pb.f1
        rotate_left
        ·rw [if_neg c2] at hod2
         obtain rfl := Option.some.inj hod2; have d2 : decide (a1_1 < pb.f1) = false := decide_eq_false c2; clear hod2 c1 c2; go_wp2
         go_roundg q1
         case measure => exact Nat.lt_succ_self _
         case rel => exact ⟨i + 1, odd, rfl, congrArg _ E1.out, ⟨by have := HI.out; omega⟩, HF, ⟨HW2.out.toX⟩⟩
        have d2 : decide (a1_1 < pb.f1) = true := decide_eq_true c2; rw [if_pos c2] at hod2; obtain ⟨c, hc, hod2⟩ := Option.bind_eq_some_iff.mp hod2; have HC := Aside0.mk hc; have ho := Option.some.inj hod2; have HOE := Aside0.mk ho; clear c1 c2 hc hod2 ho; by_cases c3 : c > 0
        ·have d3 : decide (0 < c) = true := decide_eq_true c3
         obtain rfl : (!odd) = od := by have h_ := HOE.out; rw [if_pos c3] at h_; exact h_
         clear c3; go_wp2_with (first | (go_at_call 38; (with_reducible refine (impl_cross.calls pa.f0 pa.f1 pb.f0 pb.f1 a1_0 a1_1 c _ HC.out).mono ?_); rintro e w51 ⟨rfl, hb5⟩; have HW9 := Aside0.mk (HW2.out.step hb5); clear hb5))
         go_roundg q1
         case measure => exact Nat.lt_succ_self _
         case rel => exact ⟨i + 1, !odd, rfl, congrArg _ E1.out, ⟨by have := HI.out; omega⟩, HF, ⟨HW9.out.toX⟩⟩
        ·have d3 : decide (0 < c) = false := decide_eq_false c3
         obtain rfl : odd = od := by have h_ := HOE.out; rw [if_neg c3] at h_; exact h_
         clear c3; go_wp2_with (first | (go_at_call 38; (with_reducible refine (impl_cross.calls pa.f0 pa.f1 pb.f0 pb.f1 a1_0 a1_1 c _ HC.out).mono ?_); rintro e w51 ⟨rfl, hb5⟩; have HW9 := Aside0.mk (HW2.out.step hb5); clear hb5))
         go_roundg q1
         case measure => exact Nat.lt_succ_self _
         case rel => exact ⟨i + 1, odd, rfl, congrArg _ E1.out, ⟨by have := HI.out; omega⟩, HF, ⟨HW9.out.toX⟩⟩

/-! ### impl_isDiagonal: function 71 -/
/-! isDiagonal: two corners are joined by a segment inside -/
def diWant (n i k j : Nat) : Int := if j = i then 1 else if j = k then 1 else if (j + 1) % n = i then 1 else if (j + 1) % n = k then 1 else 0
def diLoop (l : List S25) (i k : Nat) : Nat → Nat → Option Bool
 | 0, _ => some true
 | m + 1, j => (impl_meet.f (rd_T25 l (i : Int)).f0 (rd_T25 l (i : Int)).f1 (rd_T25 l (k : Int)).f0 (rd_T25 l (k : Int)).f1 (rd_T25 l (j : Int)).f0 (rd_T25 l (j : Int)).f1 (rd_T25 l (((j + 1) % l.length : Nat) : Int)).f0 (rd_T25 l (((j + 1) % l.length : Nat) : Int)).f1).bind fun c => if c = diWant l.length i k j then diLoop l i k m (j + 1) else some false
def diDbl (l : List S25) : Nat → Nat → List S25 → List S25
 | 0, _, x => x
 | m + 1, j, x => diDbl l m (j + 1) (x ++ [⟨wrap64 (2 * (rd_T25 l (j : Int)).f0), wrap64 (2 * (rd_T25 l (j : Int)).f1)⟩])
def diG (l : List S25) (i k : Nat) : Option Bool :=
 (diLoop l i k l.length 0).bind fun b => if b = true then impl_isIn.f (diDbl l l.length 0 []) (wrap64 ((rd_T25 l (i : Int)).f0 + (rd_T25 l (k : Int)).f0)) (wrap64 ((rd_T25 l (i : Int)).f1 + (rd_T25 l (k : Int)).f1)) else some false
def diOk (n i k : Nat) : Prop := 3 ≤ n ∧ n ≤ 10 ∧ i < n ∧ k < n ∧ i ≠ k ∧ (i + 1) % n ≠ k ∧ (k + 1) % n ≠ i
instance (n i k : Nat) : Decidable (diOk n i k) := by unfold diOk; infer_instance
def impl_isDiagonal.f (k : Nat) (l : List S25) (a1 a2 : Int) : Option Bool := if 0 ≤ a1 ∧ 0 ≤ a2 ∧ diOk l.length a1.toNat a2.toNat then diG l a1.toNat a2.toNat else none
theorem impl_isDiagonal.mono : ∀ l a1 a2 k, LeO (impl_isDiagonal.f k l a1 a2) (impl_isDiagonal.f (k + 1) l a1 a2) := fun _ _ _ _ => LeO.refl _
def di71.od0 : List Nat := [0, 1, 2, 3, 4, 5, 6, 7, 8, 9, 10, 11, 12, 13, 14, 15, 16, 17, 18, 20, 19, 21]
def di71.T10 : Bool × List (List Nat × List Nat) := (true, [([], []), ([], []), ([0, 1], [0, 1]), ([2], [2]), ([], []), ([], []), ([4, 5], [4, 5]), ([6], [6]), ([], []), ([], []), ([8, 9], [8, 9]), ([10], [10]), ([], []), ([], []), ([13], [13]), ([], []), ([14, 15], [14, 15]), ([12, 16], [12, 16]), ([17], [17]), ([3, 7, 11, 18], [3, 7, 11, 18]), ([], []), ([19, 20], [19, 20])])
def di71.B10 : List Nat := [0, 0, 3, 7, 0, 0, 48, 112, 0, 0, 768, 1792, 0, 0, 8192, 0, 57344, 126976, 258048, 524287, 0, 2097151]
theorem di71.tab10 : rtab .any (opsOf Try.f71 10) = di71.T10 := by kernel_rfl
theorem di71.bits10 : waitsOk di71.T10.2 di71.B10 = true := by kernel_rfl
def di71.T19 : Bool × List (List Nat × List Nat) := (true, [([], []), ([], []), ([], []), ([1, 2], [1, 2]), ([3], [3]), ([4], [4]), ([], []), ([], []), ([6, 7], [6, 7]), ([8], [8]), ([9], [9]), ([5, 10], [5, 10]), ([], []), ([], []), ([12, 13], [12, 13]), ([14], [14]), ([15], [15]), ([], []), ([], []), ([17, 18], [17, 18]), ([19], [19]), ([20], [20]), ([16, 21], [16, 21]), ([11, 22], [11, 22]), ([0, 23], [0, 23]), ([24, 24, 0, 1, 2, 3, 4, 5, 6, 7, 8, 9, 10, 11, 12, 13, 14, 15, 16, 17, 18, 19, 20, 21, 22, 23, 24], [24])])
def di71.B19 : List Nat := [0, 0, 0, 6, 14, 30, 0, 0, 192, 448, 960, 2046, 0, 0, 12288, 28672, 61440, 0, 0, 393216, 917504, 1966080, 4190208, 8388606, 16777215, 33554431]
theorem di71.tab19 : rtab .any (opsOf Try.f71 19) = di71.T19 := by kernel_rfl
theorem di71.bits19 : waitsOk di71.T19.2 di71.B19 = true := by kernel_rfl
theorem di_within {i n : Nat} (h : i < n) (hn : n ≤ 10) : impl_within.f (i : Int) 0 (wrap64 ((n : Int) - 1)) = some true := by
 have e : wrap64 ((n : Int) - 1) = (n : Int) - 1 := by unfold wrap64; omega
 unfold impl_within.f
 rw [e, if_pos (by omega), decide_eq_true (by omega)]
theorem di_mod {i n : Nat} (h : i < n) (hn : n ≤ 10) : Int.tmod (wrap64 ((i : Int) + 1)) (n : Int) = (((i + 1) % n : Nat) : Int) := by
 have e1 : wrap64 ((i : Int) + 1) = ((i + 1 : Nat) : Int) := by unfold wrap64; omega
 rw [e1]; exact (Int.ofNat_tmod _ _).symm
theorem di_want (n i k j : Nat) : diWant n i k j = if j = i ∨ j = k ∨ (j + 1) % n = i ∨ (j + 1) % n = k then 1 else 0 := by
 unfold diWant
 by_cases a : j = i <;> by_cases b : j = k <;> by_cases c : (j + 1) % n = i <;> by_cases d : (j + 1) % n = k <;> simp [a, b, c, d]
theorem di_beq {a b : Nat} (h : a = b) : ((a : Int) == (b : Int)) = true := beq_iff_eq.mpr (by omega)
theorem di_bne {a b : Nat} (h : a ≠ b) : ((a : Int) == (b : Int)) = false := beq_eq_false_iff_ne.mpr (by omega)
set_option maxHeartbeats 16000000 in
set_option maxRecDepth 100000 in
theorem di_calls (A0 : Option Addr) (c0 : Nat) (l0 : List S25) (i k : Nat) (r : Bool) (w : World) (hr0 : Kd.C k25 w A0 l0.length l0) (hc0 : l0.length ≤ c0) (hk : diOk l0.length i k) (h : diG l0 i k = some r) :
  Calls Try.prog 71 #[.slice A0 l0.length c0, .int .i64 (i : Int), .int .i64 (k : Int)] w fun e w' => e = .returned (.bool r) ∧ Below w.heap.size w w' := by
 have hu25 := Try.underlying25
 obtain ⟨hn3, hn10, hik, hkk, hne, hm1, hm2⟩ := hk
 have HN := Aside0.mk (show 3 ≤ l0.length ∧ l0.length ≤ 10 ∧ i < l0.length ∧ k < l0.length from ⟨hn3, hn10, hik, hkk⟩)
 have HR := Aside0.mk hr0
 have HW1 := Aside0.mk (di_within hik hn10)
 have HW2 := Aside0.mk (di_within hkk hn10)
 unfold diG at h
 obtain ⟨b, hb, h⟩ := Option.bind_eq_some_iff.mp h
 have HL := Aside0.mk hb
 have HF := Aside0.mk h
 have HB : Aside0 (Below w.heap.size w w) := ⟨Below.refl _ _⟩
 have e1 := di_mod hik hn10
 have e2 := di_mod hkk hn10
 generalize (i + 1) % l0.length = i1 at e1 hm1
 generalize (k + 1) % l0.length = k1 at e2 hm2
 have b1 := di_bne hne
 have b2 := di_bne hm1
 have b3 := di_bne hm2
 have b4 : ((l0.length : Int) == 0) = false := beq_eq_false_iff_ne.mpr (by omega)
 have b5 : ((l0.length : Int) = 0) = False := eq_false (by omega)
 have b6 : (l0 = []) = False := eq_false (fun e => by rw [e] at hn3; exact absurd hn3 (by simp))
 clear hr0 hc0 h hb hn3 hn10 hik hkk hne hm1 hm2
 go_enter Try.func71, Try.ntmps71
 go_upto_region 2 with (fail)
 go_cut [47] (fun v47 wc => v47 = .bool false ∧ Aside0 (Below w.heap.size w wc))
 case first =>
  go_wp2_with (first
   | ((with_reducible refine gate_callee (f := 34) rfl ?_); refine goesL_ (some 18) rfl rfl Try.func34 (by kernel_rfl) rfl #[.int .i64 (i : Int), .int .i64 0, .int .i64 (wrap64 ((l0.length : Int) - 1))] rfl (by (try simp only [List.map_toArray, List.map_cons, List.map_nil]); first | done | rfl) ?_; (with_reducible refine (impl_within.calls (i : Int) 0 (wrap64 ((l0.length : Int) - 1)) true _ HW1.out).mono ?_); rintro e w' ⟨rfl, ⟨nd, rfl⟩⟩; refine ⟨_, rfl, ?_⟩)
   | (go_at_call 34; (with_reducible refine (impl_within.calls (k : Int) 0 (wrap64 ((l0.length : Int) - 1)) true _ HW2.out).mono ?_); rintro e w' ⟨rfl, ⟨nd, rfl⟩⟩))
  go_meet
  case rel => exact ⟨rfl, ⟨by repeat (first | (with_reducible first | exact HB.out | apply pw_below_drewN | apply below_drew1) | exact HB.out)⟩⟩
 clear e1 e2 b1 b2 b3 b4 b5 b6 HB HW1 HW2
 obtain ⟨rfl, HB⟩ := hcut
 go_wp2
 go_loopg [49] l0.length (fun q v49 w' => ∃ (j : Nat), v49 = .int .i64 (j : Int) ∧ Aside0 (j + q = l0.length) ∧ Aside0 (diLoop l0 i k q j = some b) ∧ Aside0 (Below w.heap.size w w'))
 case atStart => exact ⟨0, rfl, ⟨by omega⟩, HL, HB⟩
 case round =>
  clear HL HB; obtain ⟨j, rfl, HJ, HL, HB⟩ := hrel; rcases gk with _ | q1
  ·have hb := HL.out
   rw [diLoop] at hb; obtain rfl := Option.some.inj hb; have HII : Aside0 (impl_isIn.f (diDbl l0 l0.length 0 []) (wrap64 ((rd_T25 l0 (i : Int)).f0 + (rd_T25 l0 (k : Int)).f0)) (wrap64 ((rd_T25 l0 (i : Int)).f1 + (rd_T25 l0 (k : Int)).f1)) = some r) := ⟨by have h_ := HF.out; rw [if_pos rfl] at h_; exact h_⟩; have ci0 : ((j : Int) < (l0.length : Int)) = False := eq_false (by have := HJ.out; omega); have ci1 : decide ((j : Int) < (l0.length : Int)) = false := decide_eq_false (by have := HJ.out; omega); have ci2 : (j < l0.length) = False := eq_false (by have := HJ.out; omega); clear hb HF HL HJ; obtain ⟨D, hD⟩ : ∃ D, D = diDbl l0 l0.length 0 [] := ⟨_, rfl⟩; rw [← hD] at HII; have HD := Aside0.mk hD.symm; clear hD; go_wp2_with (first | ((with_reducible refine gate_dst (N := 99) rfl ?_); refine Kd.R_lit k25 _ 25 ?hg (N := 99) ?hd (xs := ([] : List (S25))) (inner := []) (ok := fun _ => True) (okp := fun _ => True) ?hr ?hp (fun _ hk => hk) trivial (Below.refl _ _) (Nat.le_refl _) (by simp) ?_; (case hd => rfl); (case hg => rfl); (case hr => first | (go_simp; done) | (go_simp; rfl)); (case hp => exact (Reps.none _ _)); intro v10 w3 ho hb hg_ hnew_; clear hg_ hnew_; have HO := Aside0.mk (Kd.R_lower ho (below_size HB.out)); have HB3 := Aside0.mk (below_step HB.out hb); clear HB; have HB := HB3; clear HB3 hb ho))
   clear ci0 ci1 ci2; go_loopg [10, 102] l0.length (fun q v10 v102 w' => ∃ (j : Nat) (x : List S25), v102 = .int .i64 (j : Int) ∧ Aside0 (j + q = l0.length) ∧ Aside0 (x.length = j) ∧ Aside0 (diDbl l0 q j x = D) ∧ Aside0 (Kd.R k25 25 w' w.heap.size (fun _ => True) v10 x) ∧ Aside0 (Below w.heap.size w w'))
   case atStart => exact ⟨0, [], rfl, ⟨by omega⟩, ⟨rfl⟩, HD, HO, HB⟩
   case round =>
    clear HD HO HB; obtain ⟨j, x, rfl, HJ, HXL, HD, HO, HB⟩ := hrel; rcases gk with _ | q1
    ·have hD := HD.out
     rw [diDbl] at hD; subst hD
     have ci0 : ((j : Int) < (l0.length : Int)) = False := eq_false (by have := HJ.out; omega); have ci1 : decide ((j : Int) < (l0.length : Int)) = false := decide_eq_false (by have := HJ.out; omega); have ci2 : (j < l0.length) = False := eq_false (by have := HJ.out; omega); obtain ⟨AD, cD, rfl⟩ := Kd.R_slice HO.out; obtain ⟨ad, e0, hi0, hi1⟩ := at_T25 HR.out (i : Int) (by omega) (by have := HN.out; omega); obtain ⟨ad2, e1, hk0, hk1⟩ := at_T25 HR.out (k : Int) (by omega) (by have := HN.out; omega); obtain rfl : ad = ad2 := by rw [e0] at e1; injection e1
     subst e0
     (try simp only [Int.toNat_natCast] at hi0 hi1 hk0 hk1); clear e1 HD; generalize rd_T25 l0 (i : Int) = pi at hi0 hi1 HII
     generalize rd_T25 l0 (k : Int) = pk at hk0 hk1 HII
     have ci3 : (0 ≤ (i : Int)) = True := eq_true (by omega); have ci4 : (0 ≤ (k : Int)) = True := eq_true (by omega); have ci5 : ((i : Int) < (l0.length : Int)) = True := eq_true (by have := HN.out; omega); have ci6 : ((k : Int) < (l0.length : Int)) = True := eq_true (by have := HN.out; omega); have ci7 : (i < l0.length) = True := eq_true (by have := HN.out; omega); have ci8 : (k < l0.length) = True := eq_true (by have := HN.out; omega); try go_wp2
     have n0_ := Aside0.mk (Kd.R_drew HO.out); have n1_ := Aside0.mk (below_drew1 HB.out); clear HO HB; have HO := n0_; have HB := n1_; clear n0_ n1_; generalize x = D at HII HO HXL
     refine start_ (n := 26) (S := fun w' => w'.cell? (ad.add (i * 2)) = some (.int .i64 pi.f0) ∧ w'.cell? ⟨(ad.add (i * 2)).block, (ad.add (i * 2)).off + 1, none⟩ = some (.int .i64 pi.f1) ∧ w'.cell? (ad.add (k * 2)) = some (.int .i64 pk.f0) ∧ w'.cell? ⟨(ad.add (k * 2)).block, (ad.add (k * 2)).off + 1, none⟩ = some (.int .i64 pk.f1)) (ds := []) (qD_ 26 0) (by kernel_rfl) rfl rfl ⟨(HB.out.cell (World.block_lt_of_cell? w _ hi0)).trans hi0, (HB.out.cell (World.block_lt_of_cell? w _ hi1)).trans hi1, (HB.out.cell (World.block_lt_of_cell? w _ hk0)).trans hk0, (HB.out.cell (World.block_lt_of_cell? w _ hk1)).trans hk1⟩ (fun hHeld => ?_); refine with_tabW di71.tab19 di71.bits19 (fun HT_ HW_ => ?_); generalize wr.drew = w66 at HB HO hHeld ⊢
     iterate 24 (first | (refine hz_ HT_ ?zy ?zp ?_ (v := ?_) (a' := ?_); (case zy => intro w'; go_simp; with_reducible rfl); (case zp => simp only [Act.put, List.setIfInBounds_toArray, List.set_cons_zero, List.set_cons_succ, i64_w, i32_w]; rfl)) | (refine ht_ HT_ HW_ hHeld ?zy ?zp ?_ (v := ?_) (a' := ?_); (case zy => rintro w' s_; obtain ⟨s0, s1, s2, s3⟩ := s_; go_simp; with_reducible rfl); (case zp => simp only [Act.put, List.setIfInBounds_toArray, List.set_cons_zero, List.set_cons_succ, i64_w, i32_w]; rfl)))
     refine one_ (i := 24) (N := some 141) (qD_ 26 25) rfl rfl (one_of HT_.out (by kernel_rfl)) (by decide) (fun K hK => ?_); refine goes_ Try.func107 (by kernel_rfl) rfl #[.slice AD D.length cD, .agg #[.int .i64 (wrap64 (pi.f0 + pk.f0)), .int .i64 (wrap64 (pi.f1 + pk.f1))]] (by rfl) rfl rfl (by (try simp only [List.map_toArray, List.map_cons, List.map_nil]); first | done | rfl) ?_; with_reducible refine (impl_isIn.calls AD cD D (wrap64 (pi.f0 + pk.f0)) (wrap64 (pi.f1 + pk.f1)) r _ (Kd.R_reads' HO.out).2.2 (Kd.R_reads' HO.out).2.1 HII.out).mono ?_
     rintro e w68 ⟨rfl, hb⟩
     refine ⟨_, rfl, ?_⟩; have n0_ := Aside0.mk (below_step HB.out hb); clear HB hb; have HB := n0_; clear n0_; refine hK.out _ _ (⟨(HB.out.cell (World.block_lt_of_cell? w _ hi0)).trans hi0, (HB.out.cell (World.block_lt_of_cell? w _ hi1)).trans hi1, (HB.out.cell (World.block_lt_of_cell? w _ hk0)).trans hk0, (HB.out.cell (World.block_lt_of_cell? w _ hk1)).trans hk1⟩) (fun hHeld => ?_); clear hK K; refine norm_ (a' := ?_) ?_ ?_; rotate_left
     ·show Act.put _ (some 141) _ = _
      simp only [Act.put, List.setIfInBounds_toArray, List.set_cons_zero, List.set_cons_succ, i64_w, i32_w]; rfl
     iterate 1 (first | (refine hz_ HT_ ?zy ?zp ?_ (v := ?_) (a' := ?_); (case zy => intro w'; go_simp; with_reducible rfl); (case zp => simp only [Act.put, List.setIfInBounds_toArray, List.set_cons_zero, List.set_cons_succ, i64_w, i32_w]; rfl)))
     refine done_ (done_of HT_.out (by kernel_rfl)) ?_; try go_wp2
     go_ret
     exact ⟨rfl, HB.out⟩
    have hlt : j < l0.length := by have := HJ.out; omega
    have hD := HD.out; rw [diDbl] at hD; have HD2 := Aside0.mk hD; obtain ⟨ad, e0, hj0, hj1⟩ := at_T25 HR.out (j : Int) (by omega) (by omega); subst e0
    have hj2 := it_cell HB.out hj0; have hj3 := it_cell HB.out hj1; (try simp only [Int.toNat_natCast] at hj2 hj3); have e1 : wrap64 ((j : Int) + 1) = ((j + 1 : Nat) : Int) := by have := HN.out; unfold wrap64; omega
    have E1 := Aside0.mk e1; have ci0 : ((j : Int) < (l0.length : Int)) = True := eq_true (by omega); have ci1 : decide ((j : Int) < (l0.length : Int)) = true := decide_eq_true (by omega); have ci2 : (0 ≤ (j : Int)) = True := eq_true (by omega); have ci3 : (j < l0.length) = True := eq_true hlt; clear hD HD hj0 hj1 e1; generalize rd_T25 l0 (j : Int) = pj at hj2 hj3 HD2
    have HXL2 := Aside0.mk (show (x ++ [(⟨wrap64 (2 * pj.f0), wrap64 (2 * pj.f1)⟩ : S25)]).length = j + 1 from by rw [List.length_append, List.length_singleton, HXL.out]); have HX5 := Aside0.mk (show x.length < 100 from by have := HXL.out; have := HN.out; omega); clear hlt HXL; go_upto_region 17 with (fail)
    have ho2 := Aside0.mk (Kd.R_alloc HO.out (.cells #[.int .i64 pj.f0, .int .i64 pj.f1] 25)); have hb2 := Aside0.mk (below_alloc HB.out (.cells #[.int .i64 pj.f0, .int .i64 pj.f1] 25)); have hbx := Aside0.mk (in_new wr (.cells #[.int .i64 pj.f0, .int .i64 pj.f1] 25) rfl); clear HO HB hj2 hj3; generalize wr.alloc (.cells #[.int .i64 pj.f0, .int .i64 pj.f1] 25) = Wa at ho2 hb2 hbx ⊢
    generalize wr.heap.size = ga at hbx ⊢
    obtain ⟨xa0, xa1⟩ := in_cell hbx.out; go_wp2_with (first | ((with_reducible refine gate_builtin (b := .append) (xs := #[.tmp 106, .tmp 114]) rfl ?_); at_builtin; refine Kd.R_append k25 (w0 := w) w.heap.size rfl (.tmp 106) (.tmp 114) 33 25 (.agg #[(.int .i64 0), (.int .i64 0)]) 16 rfl Try.underlying33 info25 rfl (by decide) (by omega) u10 x (⟨wrap64 (2 * pj.f0), wrap64 (2 * pj.f1)⟩ : S25) [.int .i64 (wrap64 (2 * pj.f0)), .int .i64 (wrap64 (2 * pj.f1))] (fun _ => True) (fun _ => False) rfl (by first | (go_simp; done) | (go_simp; rfl)) ?aP (fun _ hk => hk.elim) ?aF ?aO ?aB ?aS ?aL ?_; (case aP => exact k25_mkM _ _ _ (⟨wrap64 (2 * pj.f0), wrap64 (2 * pj.f1)⟩ : S25)); (case aO => exact ho2.out); (case aF => exact fun _ _ => trivial); (case aB => exact hb2.out); (case aS => exact below_size hb2.out); (case aL => have := HX5.out; omega); intro v22 w22 ho hb hg hat; have HO2 := Aside0.mk ho; have HB2 := Aside0.mk hb; clear ho hb hg hat ho2 hb2))
    go_roundg q1
    case measure => exact Nat.lt_succ_self _
    case rel => exact ⟨j + 1, _, congrArg _ E1.out, ⟨by have := HJ.out; omega⟩, HXL2, HD2, HO2, HB2⟩
  have hlt : j < l0.length := by have := HJ.out; omega
  have h2 := HL.out; rw [diLoop] at h2; obtain ⟨c, hm, h2⟩ := Option.bind_eq_some_iff.mp h2; obtain ⟨want, hw⟩ : ∃ x, x = diWant l0.length i k j := ⟨_, rfl⟩; rw [← hw] at h2; unfold diWant at hw
  have e1 : wrap64 ((j : Int) + 1) = ((j + 1 : Nat) : Int) := by have := HN.out; unfold wrap64; omega
  have e2 := di_mod hlt HN.out.2.1; have hmm := Nat.mod_lt (j + 1) (show 0 < l0.length by omega); generalize (j + 1) % l0.length = jn at e2 hmm hw hm
  have HM := Aside0.mk hm; have H2 := Aside0.mk h2; have HWD := Aside0.mk hw; have E1 := Aside0.mk e1; have HLT := Aside0.mk (show j < l0.length ∧ jn < l0.length from ⟨hlt, hmm⟩); have ci0 : ((j : Int) < (l0.length : Int)) = True := eq_true (by omega); have ci1 : decide ((j : Int) < (l0.length : Int)) = true := decide_eq_true (by omega); have ci2 : ((l0.length : Int) = 0) = False := eq_false (by omega); have ci3 : ((l0.length : Int) == 0) = false := beq_eq_false_iff_ne.mpr (by omega); have ci4 : (l0 = []) = False := eq_false (fun e => by rw [e] at hlt; exact absurd hlt (by simp)); clear hm h2 hw e1 hlt hmm HL; go_upto_region 8 with (fail)
  go_cut [75] (fun v75 wc => ∃ bq : Bool, v75 = .bool bq ∧ Aside0 (want = if bq = true then 1 else 0) ∧ Aside0 (Below w.heap.size w wc))
  case first =>
   have hw := HWD.out; by_cases c1 : j = i
   ·rw [if_pos c1] at hw
    have b1 := di_beq c1; clear c1; go_wp2
    go_meet
    case rel => exact ⟨true, rfl, ⟨hw⟩, HB⟩
   rw [if_neg c1] at hw; have b1 := di_bne c1; clear c1; by_cases c2 : j = k
   ·rw [if_pos c2] at hw
    have b2 := di_beq c2; clear c2; go_wp2
    go_meet
    case rel => exact ⟨true, rfl, ⟨hw⟩, HB⟩
   rw [if_neg c2] at hw; have b2 := di_bne c2; clear c2; by_cases c3 : jn = i
   ·rw [if_pos c3] at hw
    have b3 := di_beq c3; clear c3; go_wp2
    go_meet
    case rel => exact ⟨true, rfl, ⟨hw⟩, HB⟩
   rw [if_neg c3] at hw; have b3 := di_bne c3; clear c3; by_cases c4 : jn = k
   ·rw [if_pos c4] at hw
    have b4 := di_beq c4; clear c4; go_wp2
    go_meet
    case rel => exact ⟨true, rfl, ⟨hw⟩, HB⟩
   rw [if_neg c4] at hw; have b4 := di_bne c4; clear c4; go_wp2
   go_meet
   case rel => exact ⟨false, rfl, ⟨hw⟩, HB⟩
  clear HB HWD ci0 ci1; obtain ⟨bq, rfl, HWQ, HB⟩ := hcut; go_upto_if 75 with (fail)
  go_cut [9] (fun v9 wc => v9 = .int .i64 want ∧ Aside0 (Below w.heap.size w wc))
  case first =>
   cases bq with
   | true =>
    obtain rfl : want = 1 := HWQ.out; go_wp2
    go_meet
    case rel => exact ⟨rfl, HB⟩
   | false =>
    obtain rfl : want = 0 := HWQ.out; go_wp2
    go_meet
    case rel => exact ⟨rfl, HB⟩
  clear HB HWQ; obtain ⟨rfl, HB⟩ := hcut; have h3 := HLT.out; obtain ⟨ad, e3, hi0, hi1⟩ := at_T25 HR.out (i : Int) (by omega) (by have := HN.out; omega); obtain ⟨ad2, e4, hk0, hk1⟩ := at_T25 HR.out (k : Int) (by omega) (by have := HN.out; omega); obtain rfl : ad = ad2 := by rw [e3] at e4; injection e4
  obtain ⟨ad2, e5, hj0, hj1⟩ := at_T25 HR.out (j : Int) (by omega) (by omega); obtain rfl : ad = ad2 := by rw [e3] at e5; injection e5
  obtain ⟨ad2, e6, hn0, hn1⟩ := at_T25 HR.out (jn : Int) (by omega) (by omega); obtain rfl : ad = ad2 := by rw [e3] at e6; injection e6
  subst e3
  (try simp only [Int.toNat_natCast] at hi0 hi1 hk0 hk1 hj0 hj1 hn0 hn1); clear e4 e5 e6; have ci5 : (0 ≤ (i : Int)) = True := eq_true (by omega); have ci6 : (0 ≤ (k : Int)) = True := eq_true (by omega); have ci7 : (0 ≤ (j : Int)) = True := eq_true (by omega); have ci8 : (0 ≤ (jn : Int)) = True := eq_true (by omega); have ci9 : ((i : Int) < (l0.length : Int)) = True := eq_true (by have := HN.out; omega); have ci10 : ((k : Int) < (l0.length : Int)) = True := eq_true (by have := HN.out; omega); have ci11 : ((j : Int) < (l0.length : Int)) = True := eq_true (by omega); have ci12 : ((jn : Int) < (l0.length : Int)) = True := eq_true (by omega); have ci13 : (i < l0.length) = True := eq_true (by have := HN.out; omega); have ci14 : (k < l0.length) = True := eq_true (by have := HN.out; omega); have ci15 : (j < l0.length) = True := eq_true (by omega); have ci16 : (jn < l0.length) = True := eq_true (by omega); clear h3 HLT; have HF3 := HF; clear HF; generalize hpi : rd_T25 l0 (i : Int) = pi at hi0 hi1 HM
  generalize hpk : rd_T25 l0 (k : Int) = pk at hk0 hk1 HM
  generalize rd_T25 l0 (j : Int) = pj at hj0 hj1 HM
  generalize rd_T25 l0 (jn : Int) = pjn at hn0 hn1 HM
  try go_wp2
  have n1_ := Aside0.mk (below_drew1 HB.out); clear HB hpi hpk; have HB := n1_; clear n1_; refine start_ (n := 22) (S := fun w' => w'.cell? (ad.add (i * 2)) = some (.int .i64 pi.f0) ∧ w'.cell? ⟨(ad.add (i * 2)).block, (ad.add (i * 2)).off + 1, none⟩ = some (.int .i64 pi.f1) ∧ w'.cell? (ad.add (k * 2)) = some (.int .i64 pk.f0) ∧ w'.cell? ⟨(ad.add (k * 2)).block, (ad.add (k * 2)).off + 1, none⟩ = some (.int .i64 pk.f1) ∧ w'.cell? (ad.add (j * 2)) = some (.int .i64 pj.f0) ∧ w'.cell? ⟨(ad.add (j * 2)).block, (ad.add (j * 2)).off + 1, none⟩ = some (.int .i64 pj.f1) ∧ w'.cell? (ad.add (jn * 2)) = some (.int .i64 pjn.f0) ∧ w'.cell? ⟨(ad.add (jn * 2)).block, (ad.add (jn * 2)).off + 1, none⟩ = some (.int .i64 pjn.f1)) (ds := []) (qE_ 22 di71.od0 0) (by kernel_rfl) rfl rfl ⟨(HB.out.cell (World.block_lt_of_cell? w _ hi0)).trans hi0, (HB.out.cell (World.block_lt_of_cell? w _ hi1)).trans hi1, (HB.out.cell (World.block_lt_of_cell? w _ hk0)).trans hk0, (HB.out.cell (World.block_lt_of_cell? w _ hk1)).trans hk1, (HB.out.cell (World.block_lt_of_cell? w _ hj0)).trans hj0, (HB.out.cell (World.block_lt_of_cell? w _ hj1)).trans hj1, (HB.out.cell (World.block_lt_of_cell? w _ hn0)).trans hn0, (HB.out.cell (World.block_lt_of_cell? w _ hn1)).trans hn1⟩ (fun hHeld => ?_); refine with_tabW di71.tab10 di71.bits10 (fun HT_ HW_ => ?_); generalize wc.drew = w32 at HB hHeld ⊢
  iterate 20 (first | (refine gz_ HT_ ?zy ?zp ?_ (v := ?_) (a' := ?_); (case zy => intro w'; go_simp; with_reducible rfl); (case zp => simp only [Act.put, List.setIfInBounds_toArray, List.set_cons_zero, List.set_cons_succ, i64_w, i32_w]; rfl)) | (refine gt_ HT_ HW_ hHeld ?zy ?zp ?_ (v := ?_) (a' := ?_); (case zy => rintro w' s_; obtain ⟨s0, s1, s2, s3, s4, s5, s6, s7⟩ := s_; go_simp; with_reducible rfl); (case zp => simp only [Act.put, List.setIfInBounds_toArray, List.set_cons_zero, List.set_cons_succ, i64_w, i32_w]; rfl)))
  refine one_ (i := 19) (N := some 95) (qE_ 22 di71.od0 21) rfl rfl (one_of HT_.out (by kernel_rfl)) (by decide) (fun K hK => ?_); refine goes_ Try.func70 (by kernel_rfl) rfl #[.agg #[.int .i64 pi.f0, .int .i64 pi.f1], .agg #[.int .i64 pk.f0, .int .i64 pk.f1], .agg #[.int .i64 pj.f0, .int .i64 pj.f1], .agg #[.int .i64 pjn.f0, .int .i64 pjn.f1]] (by rfl) rfl rfl (by (try simp only [List.map_toArray, List.map_cons, List.map_nil]); first | done | rfl) ?_; with_reducible refine (impl_meet.calls pi.f0 pi.f1 pk.f0 pk.f1 pj.f0 pj.f1 pjn.f0 pjn.f1 c _ HM.out).mono ?_
  rintro e w33 ⟨rfl, hb⟩
  refine ⟨_, rfl, ?_⟩; have n0_ := Aside0.mk (below_step HB.out hb); clear HB hb; have HB := n0_; clear n0_; refine hK.out _ _ (⟨(HB.out.cell (World.block_lt_of_cell? w _ hi0)).trans hi0, (HB.out.cell (World.block_lt_of_cell? w _ hi1)).trans hi1, (HB.out.cell (World.block_lt_of_cell? w _ hk0)).trans hk0, (HB.out.cell (World.block_lt_of_cell? w _ hk1)).trans hk1, (HB.out.cell (World.block_lt_of_cell? w _ hj0)).trans hj0, (HB.out.cell (World.block_lt_of_cell? w _ hj1)).trans hj1, (HB.out.cell (World.block_lt_of_cell? w _ hn0)).trans hn0, (HB.out.cell (World.block_lt_of_cell? w _ hn1)).trans hn1⟩) (fun hHeld => ?_); clear hK K; refine norm_ (a' := ?_) ?_ ?_; rotate_left
  ·show Act.put _ (some 95) _ = _
   simp only [Act.put, List.setIfInBounds_toArray, List.set_cons_zero, List.set_cons_succ, i64_w, i32_w]; rfl
  by_cases c5 : c = want
  ·have h2 := H2.out
   rw [if_pos c5] at h2; have HL := Aside0.mk h2; have d0 : (c == want) = true := beq_iff_eq.mpr c5; have d1 : (c != want) = false := bne_eq_false_iff_eq.mpr c5; clear h2 c5; iterate 1 (first | (refine gz_ HT_ ?zy ?zp ?_ (v := ?_) (a' := ?_); (case zy => intro w'; go_simp; with_reducible rfl); (case zp => simp only [Act.put, List.setIfInBounds_toArray, List.set_cons_zero, List.set_cons_succ, i64_w, i32_w]; rfl)))
   refine done_ (done_of HT_.out (by kernel_rfl)) ?_; try go_wp2
   go_roundg q1
   case measure => exact Nat.lt_succ_self _
   case rel => exact ⟨j + 1, congrArg _ E1.out, ⟨by have := HJ.out; omega⟩, HL, HB⟩
  ·have h2 := H2.out
   rw [if_neg c5] at h2; obtain rfl := Option.some.inj h2; have h4 := HF3.out; rw [if_neg (by simp)] at h4; obtain rfl := Option.some.inj h4; have d0 : (c == want) = false := beq_eq_false_iff_ne.mpr c5; have d1 : (c != want) = true := bne_iff_ne.mpr c5; clear h2 h4 c5; iterate 1 (first | (refine gz_ HT_ ?zy ?zp ?_ (v := ?_) (a' := ?_); (case zy => intro w'; go_simp; with_reducible rfl); (case zp => simp only [Act.put, List.setIfInBounds_toArray, List.set_cons_zero, List.set_cons_succ, i64_w, i32_w]; rfl)))
   refine done_ (done_of HT_.out (by kernel_rfl)) ?_; try go_wp2
   go_ret
   exact ⟨rfl, HB.out⟩
theorem impl_isDiagonal.calls (k : Nat) (A0 : Option Addr) (c0 : Nat) (l0 : List S25) (a1 a2 : Int) (r : Bool) (w : World) (hr0 : Kd.C k25 w A0 l0.length l0) (hc0 : l0.length ≤ c0) (h : impl_isDiagonal.f k l0 a1 a2 = some r) :
  Calls Try.prog 71 #[.slice A0 l0.length c0, .int .i64 a1, .int .i64 a2] w fun e w' => e = .returned (.bool r) ∧ Below w.heap.size w w' := by
 unfold impl_isDiagonal.f at h
 by_cases hc : 0 ≤ a1 ∧ 0 ≤ a2 ∧ diOk l0.length a1.toNat a2.toNat
 ·rw [if_pos hc] at h
  have := di_calls A0 c0 l0 a1.toNat a2.toNat r w hr0 hc0 hc.2.2 h; rw [Int.toNat_of_nonneg hc.1, Int.toNat_of_nonneg hc.2.1] at this; exact this
 ·rw [if_neg hc] at h; cases h

/-! ### impl_isEar: function 42 -/
def impl_isEar.od0 : List Nat := [0, 1, 2, 3, 4, 5, 6, 7, 8, 9, 10, 11, 12, 13, 14, 15, 16, 17, 18, 19, 20, 21, 22]
def impl_isEar.f (k : Nat) (l0 : List (S25)) (a1 : Int) : Option (Bool) := (impl_within.f a1 0 (wrap64 ((l0.length : Int) - 1))).bind fun t221 => (if t221 = true then (if (l0.length : Int) = 3 then (some true) else (if (l0.length : Int) = 0 then (none) else ((impl_isDiagonal.f k l0 (Int.tmod (wrap64 ((wrap64 (a1 + (l0.length : Int))) - 1)) (l0.length : Int)) (Int.tmod (wrap64 (a1 + 1)) (l0.length : Int))).bind fun t222 => (some t222)))) else (some false))
theorem impl_isEar.mono : ∀ a0 a1 k, LeO (impl_isEar.f k a0 a1) (impl_isEar.f (k + 1) a0 a1) := by
 intro a0 a1 k
 unfold impl_isEar.f
 repeat' first
  | (with_reducible exact impl_isDiagonal.mono _ _ _ _)
  | (with_reducible exact LeO.refl _)
  | (with_reducible exact LeO.none _)
  | (with_reducible refine LeO.ite ?_ ?_)
  | (with_reducible refine LeO.bind ?_ (fun _ => ?_))
  | exact impl_isDiagonal.mono _ _ _ _
  | exact LeO.none _
  | refine LeO.ite ?_ ?_
  | refine LeO.bind ?_ (fun _ => ?_)
def impl_isEar.T2 : Bool × List (List Nat × List Nat) := (true, [([], []), ([], []), ([1], [1]), ([0, 2], [0, 2]), ([3, 3], [3]), ([4], [4]), ([5, 4], [4, 5]), ([6, 4, 4], [4, 6]), ([7], [7]), ([7], [7]), ([7], [7]), ([9, 10, 7], [7, 9, 10]), ([11, 7], [7, 11]), ([7], [7]), ([12, 13, 7], [7, 12, 13]), ([7], [7]), ([15, 7], [7, 15]), ([7], [7]), ([16, 17, 7], [7, 16, 17]), ([8, 14, 18, 7, 7], [7, 8, 14, 18]), ([7, 19, 4], [4, 7, 19]), ([4, 20], [4, 20]), ([21, 19, 0, 1, 2, 3, 4, 5, 6, 7, 8, 9, 10, 11, 12, 13, 14, 15, 16, 17, 18, 19, 20, 21], [21])])
def impl_isEar.B2 : List Nat := [0, 0, 2, 7, 15, 31, 63, 127, 255, 255, 255, 1791, 3839, 255, 16127, 255, 33023, 255, 229631, 524287, 1048575, 2097151, 4194303]
theorem impl_isEar.tab2 : rtab .any (opsOf Try.f42 2) = impl_isEar.T2 := by kernel_rfl
theorem impl_isEar.bits2 : waitsOk impl_isEar.T2.2 impl_isEar.B2 = true := by kernel_rfl
set_option maxHeartbeats 8000000 in
set_option maxRecDepth 100000 in
theorem impl_isEar.calls (k : Nat) (A0 : Option Addr) (c0 : Nat) (l0 : List (S25)) (a1 : Int) (r : Bool) (w : World) (hr0 : Kd.C k25 w A0 l0.length l0) (hc0 : l0.length ≤ c0) (h : impl_isEar.f k l0 a1 = some r) :
  Calls Try.prog 42 #[.slice A0 l0.length c0, .int .i64 a1] w fun e w' => e = .returned (.bool r) ∧ Below w.heap.size w w' := by
 have HR0 := Aside0.mk hr0
 have HC0 := Aside0.mk hc0
 clear hr0 hc0
 have HB := Aside0.mk (Below.refl w.heap.size w)
 have H : ((impl_within.f a1 0 (wrap64 ((l0.length : Int) - 1))).bind fun t221 => (if t221 = true then (if (l0.length : Int) = 3 then (some true) else (if (l0.length : Int) = 0 then (none) else ((impl_isDiagonal.f k l0 (Int.tmod (wrap64 ((wrap64 (a1 + (l0.length : Int))) - 1)) (l0.length : Int)) (Int.tmod (wrap64 (a1 + 1)) (l0.length : Int))).bind fun t222 => (some t222)))) else (some false))) = some r := h
 clear h
 replace H := Option.bind_eq_some_iff.mp H
 obtain ⟨t221, A30, H⟩ := H
 replace H : (if t221 = true then (if (l0.length : Int) = 3 then (some true) else (if (l0.length : Int) = 0 then (none) else ((impl_isDiagonal.f k l0 (Int.tmod (wrap64 ((wrap64 (a1 + (l0.length : Int))) - 1)) (l0.length : Int)) (Int.tmod (wrap64 (a1 + 1)) (l0.length : Int))).bind fun t222 => (some t222)))) else (some false)) = some r := H
 have A3 := Aside0.mk A30
 clear A30
 by_cases c4 : t221 = true
 ·subst c4
  have H1 : (if (l0.length : Int) = 3 then (some true) else (if (l0.length : Int) = 0 then (none) else ((impl_isDiagonal.f k l0 (Int.tmod (wrap64 ((wrap64 (a1 + (l0.length : Int))) - 1)) (l0.length : Int)) (Int.tmod (wrap64 (a1 + 1)) (l0.length : Int))).bind fun t222 => (some t222)))) = some r := by rw [if_pos rfl] at H; exact H
  clear H; have H := H1; clear H1; by_cases c5 : (l0.length : Int) = 3
  ·rw [if_pos c5] at H
   have c5b0 : ((l0.length : Int) == 3) = true := beq_iff_eq.mpr c5; have c5b1 : ((l0.length : Int) != 3) = false := bne_eq_false_iff_eq.mpr c5; clear c5; obtain rfl := Option.some.inj H; go_enter Try.func42, Try.ntmps42
   try go_wp2
   have n0_ := Aside0.mk (below_drew1 HB.out); clear HB; have HB := n0_; clear n0_; refine start_ (n := 23) (S := fun w' => True) (ds := []) (qE_ 23 impl_isEar.od0 0) (by kernel_rfl) rfl rfl trivial (fun hHeld => ?_); refine with_tabW impl_isEar.tab2 impl_isEar.bits2 (fun HT_ HW_ => ?_); generalize w.drew = w6 at HB hHeld ⊢
   iterate 3 (refine gz_ HT_ ?zy ?zp ?_ (v := ?_) (a' := ?_); (case zy => intro w'; go_simp; with_reducible rfl); (case zp => simp only [Act.put, List.setIfInBounds_toArray, List.set_cons_zero, List.set_cons_succ, i64_w, i32_w]; rfl))
   refine one_ (i := 3) (N := some 11) (qE_ 23 impl_isEar.od0 4) rfl rfl (one_of HT_.out (by kernel_rfl)) (by decide) (fun K hK => ?_); refine goes_ Try.func34 (by kernel_rfl) rfl #[.int .i64 a1, .int .i64 0, .int .i64 (wrap64 ((l0.length : Int) - 1))] (by rfl) rfl rfl (by (try simp only [List.map_toArray, List.map_cons, List.map_nil]); first | done | rfl | (simp only [List.length_drop, List.length_take]; rfl)) ?_; with_reducible refine (impl_within.calls a1 0 (wrap64 ((l0.length : Int) - 1)) true _ A3.out).mono ?_
   rintro e w' ⟨rfl, ⟨nd, rfl⟩⟩
   refine ⟨_, rfl, ?_⟩; refine hK.out _ _ trivial (fun hHeld => ?_); clear hK K; refine norm_ (a' := ?_) ?_ ?_; rotate_left
   ·show Act.put _ (some 11) _ = _
    simp only [Act.put, List.setIfInBounds_toArray, List.set_cons_zero, List.set_cons_succ, i64_w, i32_w]; rfl
   iterate 19 (first | (refine gz_ HT_ ?zy ?zp ?_ (v := ?_) (a' := ?_); (case zy => intro w'; go_simp; with_reducible rfl); (case zp => simp only [Act.put, List.setIfInBounds_toArray, List.set_cons_zero, List.set_cons_succ, i64_w, i32_w]; rfl)) | (refine gu_ HT_ ?zp ?_ (a' := ?_); (case zp => simp only [Act.put, List.setIfInBounds_toArray, List.set_cons_zero, List.set_cons_succ, i64_w, i32_w]; rfl)))
   refine done_ (done_of HT_.out (by kernel_rfl)) ?_; try go_wp2
   go_ret
   exact ⟨by first | rfl | (simp [errW_none, errW_some] <;> rfl) | (simp [*, errW_none, errW_some] <;> rfl), by repeat (first | (with_reducible first | exact HB.out | apply below_alloc | apply pw_below_drewN | apply below_drew1) | exact HB.out)⟩
  ·rw [if_neg c5] at H
   have c5b0 : ((l0.length : Int) == 3) = false := beq_eq_false_iff_ne.mpr c5; have c5b1 : ((l0.length : Int) != 3) = true := bne_iff_ne.mpr c5; by_cases c7 : (l0.length : Int) = 0
   ·rw [if_pos c7] at H
    exact absurd H (by simp)
   ·rw [if_neg c7] at H
    have c7b0 : ((l0.length : Int) == 0) = false := beq_eq_false_iff_ne.mpr c7; have c7b1 : ((l0.length : Int) != 0) = true := bne_iff_ne.mpr c7; have c7b2 : ¬ (l0 = []) := fun h_ => c7 (by rw [h_]; rfl)
    replace H := Option.bind_eq_some_iff.mp H; obtain ⟨t222, A80, H⟩ := H; replace H : (some t222) = some r := H; have A8 := Aside0.mk A80; clear A80; obtain rfl := Option.some.inj H; go_enter Try.func42, Try.ntmps42
    try go_wp2
    have n0_ := Aside0.mk (below_drew1 HB.out); clear HB; have HB := n0_; clear n0_; refine start_ (n := 23) (S := fun w' => True) (ds := []) (qE_ 23 impl_isEar.od0 0) (by kernel_rfl) rfl rfl trivial (fun hHeld => ?_); refine with_tabW impl_isEar.tab2 impl_isEar.bits2 (fun HT_ HW_ => ?_); generalize w.drew = w9 at HB hHeld ⊢
    iterate 3 (refine gz_ HT_ ?zy ?zp ?_ (v := ?_) (a' := ?_); (case zy => intro w'; go_simp; with_reducible rfl); (case zp => simp only [Act.put, List.setIfInBounds_toArray, List.set_cons_zero, List.set_cons_succ, i64_w, i32_w]; rfl))
    refine one_ (i := 3) (N := some 11) (qE_ 23 impl_isEar.od0 4) rfl rfl (one_of HT_.out (by kernel_rfl)) (by decide) (fun K hK => ?_); refine goes_ Try.func34 (by kernel_rfl) rfl #[.int .i64 a1, .int .i64 0, .int .i64 (wrap64 ((l0.length : Int) - 1))] (by rfl) rfl rfl (by (try simp only [List.map_toArray, List.map_cons, List.map_nil]); first | done | rfl | (simp only [List.length_drop, List.length_take]; rfl)) ?_; with_reducible refine (impl_within.calls a1 0 (wrap64 ((l0.length : Int) - 1)) true _ A3.out).mono ?_
    rintro e w' ⟨rfl, ⟨nd, rfl⟩⟩
    refine ⟨_, rfl, ?_⟩; refine hK.out _ _ trivial (fun hHeld => ?_); clear hK K; refine norm_ (a' := ?_) ?_ ?_; rotate_left
    ·show Act.put _ (some 11) _ = _
     simp only [Act.put, List.setIfInBounds_toArray, List.set_cons_zero, List.set_cons_succ, i64_w, i32_w]; rfl
    iterate 15 (refine gz_ HT_ ?zy ?zp ?_ (v := ?_) (a' := ?_); (case zy => intro w'; go_simp; with_reducible rfl); (case zp => simp only [Act.put, List.setIfInBounds_toArray, List.set_cons_zero, List.set_cons_succ, i64_w, i32_w]; rfl))
    refine one_ (i := 19) (N := some 27) (qE_ 23 impl_isEar.od0 20) rfl rfl (one_of HT_.out (by kernel_rfl)) (by decide) (fun K hK => ?_); refine goes_ Try.func71 (by kernel_rfl) rfl #[.slice A0 l0.length c0, .int .i64 (Int.tmod (wrap64 ((wrap64 (a1 + (l0.length : Int))) - 1)) (l0.length : Int)), .int .i64 (Int.tmod (wrap64 (a1 + 1)) (l0.length : Int))] (by rfl) rfl rfl (by (try simp only [List.map_toArray, List.map_cons, List.map_nil]); first | done | rfl | (simp only [List.length_drop, List.length_take]; rfl)) ?_; with_reducible refine (impl_isDiagonal.calls k _ _ l0 (Int.tmod (wrap64 ((wrap64 (a1 + (l0.length : Int))) - 1)) (l0.length : Int)) (Int.tmod (wrap64 (a1 + 1)) (l0.length : Int)) t222 _ ?side1 ?side2 A8.out).mono ?_
    (case side1 => repeat (first | exact (Kd.C_below HR0.out (by repeat (first | (with_reducible first | exact HB.out | apply below_alloc | apply pw_below_drewN | apply below_drew1) | exact HB.out))) | (with_reducible refine Kd.C_alloc ?_ _) | (with_reducible refine Kd.C_drewN ?_ _) | (with_reducible refine Kd.C_drew ?_)))
    (case side2 => exact HC0.out)
    rintro e w10 ⟨rfl, hb⟩
    refine ⟨_, rfl, ?_⟩; have n0_ := Aside0.mk (below_step (by repeat (first | (with_reducible first | exact HB.out | apply below_alloc | apply pw_below_drewN | apply below_drew1) | exact HB.out)) hb); clear HB; have HB := n0_; clear n0_; (try clear hb); (try clear hb2); (try clear hk); (try clear hi); refine hK.out _ _ trivial (fun hHeld => ?_); clear hK K; refine norm_ (a' := ?_) ?_ ?_; rotate_left
    ·show Act.put _ (some 27) _ = _
     simp only [Act.put, List.setIfInBounds_toArray, List.set_cons_zero, List.set_cons_succ, i64_w, i32_w]; rfl
    iterate 3 (refine gz_ HT_ ?zy ?zp ?_ (v := ?_) (a' := ?_); (case zy => intro w'; go_simp; with_reducible rfl); (case zp => simp only [Act.put, List.setIfInBounds_toArray, List.set_cons_zero, List.set_cons_succ, i64_w, i32_w]; rfl))
    refine done_ (done_of HT_.out (by kernel_rfl)) ?_; try go_wp2
    go_ret
    exact ⟨by first | rfl | (simp [errW_none, errW_some] <;> rfl) | (simp [*, errW_none, errW_some] <;> rfl), by repeat (first | (with_reducible first | exact HB.out | apply below_alloc | apply pw_below_drewN | apply below_drew1) | exact HB.out)⟩
 ·replace c4 := Bool.eq_false_iff.mpr c4
  subst c4
  have H1 : (some false) = some r := by rw [if_neg (show ¬ (false = true) by decide)] at H; exact H
  clear H; have H := H1; clear H1; obtain rfl := Option.some.inj H; go_enter Try.func42, Try.ntmps42
  try go_wp2
  have n0_ := Aside0.mk (below_drew1 HB.out); clear HB; have HB := n0_; clear n0_; refine start_ (n := 23) (S := fun w' => True) (ds := []) (qE_ 23 impl_isEar.od0 0) (by kernel_rfl) rfl rfl trivial (fun hHeld => ?_); refine with_tabW impl_isEar.tab2 impl_isEar.bits2 (fun HT_ HW_ => ?_); generalize w.drew = w11 at HB hHeld ⊢
  iterate 3 (refine gz_ HT_ ?zy ?zp ?_ (v := ?_) (a' := ?_); (case zy => intro w'; go_simp; with_reducible rfl); (case zp => simp only [Act.put, List.setIfInBounds_toArray, List.set_cons_zero, List.set_cons_succ, i64_w, i32_w]; rfl))
  refine one_ (i := 3) (N := some 11) (qE_ 23 impl_isEar.od0 4) rfl rfl (one_of HT_.out (by kernel_rfl)) (by decide) (fun K hK => ?_); refine goes_ Try.func34 (by kernel_rfl) rfl #[.int .i64 a1, .int .i64 0, .int .i64 (wrap64 ((l0.length : Int) - 1))] (by rfl) rfl rfl (by (try simp only [List.map_toArray, List.map_cons, List.map_nil]); first | done | rfl | (simp only [List.length_drop, List.length_take]; rfl)) ?_; with_reducible refine (impl_within.calls a1 0 (wrap64 ((l0.length : Int) - 1)) false _ A3.out).mono ?_
  rintro e w' ⟨rfl, ⟨nd, rfl⟩⟩
  refine ⟨_, rfl, ?_⟩; refine hK.out _ _ trivial (fun hHeld => ?_); clear hK K; refine norm_ (a' := ?_) ?_ ?_; rotate_left
  ·show Act.put _ (some 11) _ = _
   simp only [Act.put, List.setIfInBounds_toArray, List.set_cons_zero, List.set_cons_succ, i64_w, i32_w]; rfl
  iterate 19 (first | (refine gz_ HT_ ?zy ?zp ?_ (v := ?_) (a' := ?_); (case zy => intro w'; go_simp; with_reducible rfl); (case zp => simp only [Act.put, List.setIfInBounds_toArray, List.set_cons_zero, List.set_cons_succ, i64_w, i32_w]; rfl)) | (refine gu_ HT_ ?zp ?_ (a' := ?_); (case zp => simp only [Act.put, List.setIfInBounds_toArray, List.set_cons_zero, List.set_cons_succ, i64_w, i32_w]; rfl)))
  refine done_ (done_of HT_.out (by kernel_rfl)) ?_; try go_wp2
  go_ret
  exact ⟨by first | rfl | (simp [errW_none, errW_some] <;> rfl) | (simp [*, errW_none, errW_some] <;> rfl), by repeat (first | (with_reducible first | exact HB.out | apply below_alloc | apply pw_below_drewN | apply below_drew1) | exact HB.out)⟩

end Go.Proofs.Ytihnhpohbpfkmaa.XFnColors
