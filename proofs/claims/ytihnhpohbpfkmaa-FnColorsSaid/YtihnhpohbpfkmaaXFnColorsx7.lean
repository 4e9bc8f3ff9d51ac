/- What functions of the program compute, as plain Lean functions, and that Go's calls come to just that: written by wip/tools/xprint.py for the law FnColors. -/
import Derived.Test.YtihnhpohbpfkmaaXFnColorsx0
import Derived.Test.YtihnhpohbpfkmaaXFnColorsx3
import Derived.Test.YtihnhpohbpfkmaaXFnColorsx6
namespace Go.Proofs.Ytihnhpohbpfkmaa.XFnColors
open Go.RowKit Go.Proofs.YtihnhpohbpfkmaaW.PrintWords Go.Proofs.YtihnhpohbpfkmaaW.PrintLast Go.Proofs.YtihnhpohbpfkmaaW.PrintMore
attribute [local go_sem] max2_int min2_int max_two min_two max_three min_three max_four min_four   -- for this text's walks alone
set_option linter.unusedVariables false
set_option linter.unusedSimpArgs false

/-! ### impl_PolygonOk: function 40 -/
/-! the steps of a region in drawn order, taken in the order of their numbers -/
def qD_ (n i : Nat) : Array Bool := ((List.range n).map fun j => decide (j < i)).toArray
section
variable {P : Program} {ops : Array Oper} {Q : Exit → Act → World → Prop} {md : Region.Mode} {S : World → Prop} {ds : List Nat} {T : Bool × List (List Nat × List Nat)}
theorem hz_ {n i N : Nat} {oi : Oper} {v : Value} {fuel : Nat} {a a' : Act} {w : World} (HT : Aside0 (rtab md ops = T)) (hy : ∀ w', (execOp a.eval oi).run P w' = .ok (.value v) w') (ha : a.put (some N) v = a') (h : wpAnyLast P md ops Q S ds fuel (qD_ n (i + 1)) a' w) (hi : ops[i]? = some oi := by exact rfl) (hN : oi.dst = some N := by exact rfl) (hc : anyT T (qD_ n i).toList (qD_ n (i + 1)).toList i = true := by kernel_rfl)
  (hQ : ∀ c t t' d w, Q (.panic c) ⟨t, d⟩ w → Q (.panic c) ⟨t', d⟩ w := by exact fun _ _ _ _ _ h => h) (hw : Region.wanted oi (yielded ops a.tmps) = true := by rfl) : wpAnyLast P md ops Q S ds (fuel + 1) (qD_ n i) a w :=
 pure_ (i := i) (qD_ n (i + 1)) hi hN (any_of HT.out hc) (fun c a w h => by rw [hN] at h; exact hQ c _ a.tmps a.defers w h) (Or.inl ⟨hw, hy⟩) ha h
theorem hu_ {n i N : Nat} {oi : Oper} {fuel : Nat} {a a' : Act} {w : World} (HT : Aside0 (rtab md ops = T)) (ha : a.put (some N) undef = a') (h : wpAnyLast P md ops Q S ds fuel (qD_ n (i + 1)) a' w) (hi : ops[i]? = some oi := by exact rfl) (hN : oi.dst = some N := by exact rfl) (hc : anyT T (qD_ n i).toList (qD_ n (i + 1)).toList i = true := by kernel_rfl)
  (hQ : ∀ c t t' d w, Q (.panic c) ⟨t, d⟩ w → Q (.panic c) ⟨t', d⟩ w := by exact fun _ _ _ _ _ h => h) (hw : Region.wanted oi (yielded ops a.tmps) = false := by rfl) : wpAnyLast P md ops Q S ds (fuel + 1) (qD_ n i) a w :=
 pure_ (i := i) (v := undef) (qD_ n (i + 1)) hi hN (any_of HT.out hc) (fun c a w h => by rw [hN] at h; exact hQ c _ a.tmps a.defers w h) (Or.inr ⟨hw, rfl⟩) ha h
theorem ht_ {n i N : Nat} {B : List Nat} {oi : Oper} {v : Value} {fuel : Nat} {a a' : Act} {w : World} (HT : Aside0 (rtab md ops = T)) (HW : Aside0 (waitsOk T.2 B = true)) (hS : S w) (hy : ∀ w', S w' → (execOp a.eval oi).run P w' = .ok (.value v) w') (ha : a.put (some N) v = a') (h : wpAnyLast P md ops Q S ds fuel (qD_ n (i + 1)) a' w) (hi : ops[i]? = some oi := by exact rfl) (hN : oi.dst = some N := by exact rfl) (hc : takeW T B ds (qD_ n i).toList (qD_ n (i + 1)).toList i = true := by kernel_rfl)
  (hQ : ∀ c t t' d w, Q (.panic c) ⟨t, d⟩ w → Q (.panic c) ⟨t', d⟩ w := by exact fun _ _ _ _ _ h => h) (hw : Region.wanted oi (yielded ops a.tmps) = true := by rfl) : wpAnyLast P md ops Q S ds (fuel + 1) (qD_ n i) a w :=
 take_ (i := i) (qD_ n (i + 1)) hi hN (take_ofW HT.out HW.out hc) (fun c a w h => by rw [hN] at h; exact hQ c _ a.tmps a.defers w h) (Or.inl ⟨hw, hy⟩) hS ha h
end
/-! PolygonOk: the corners, then every pair of sides -/
def poPair (l : List S25) (i k : Nat) : Option Bool :=
 if eqPt (rd_T25 l (i : Int)) (rd_T25 l ((i + 1 : Nat) : Int)) = true then some false
 else if eqPt (rd_T25 l (k : Int)) (rd_T25 l (((k + 1) % l.length : Nat) : Int)) = true then some false
 else (impl_meet.g (rd_T25 l (i : Int)) (rd_T25 l ((i + 1 : Nat) : Int)) (rd_T25 l (k : Int)) (rd_T25 l (((k + 1) % l.length : Nat) : Int))).bind fun m =>
  some (m == if k = i + 1 ∨ (i = 0 ∧ k + 1 = l.length) then 1 else 0)
def poInner (l : List S25) (i : Nat) : Nat → Nat → Option Bool
 | 0, _ => some true
 | m + 1, k => (poPair l i k).bind fun b => if b = true then poInner l i m (k + 1) else some false
def poOuter (l : List S25) : Nat → Nat → Option Bool
 | 0, _ => some true
 | m + 1, i => (poInner l i m (i + 1)).bind fun b => if b = true then poOuter l m (i + 1) else some false
structure PoB (w W : World) (L : List (Nat × Obj)) : Prop where
 below : Below w.heap.size w W
 ge : ∀ x ∈ L, w.heap.size ≤ x.1 ∧ W.heap[x.1]? = some x.2
 nd : (L.map (·.1)).Nodup
section
variable {w W W' : World} {L : List (Nat × Obj)} {g : Nat} {o : Obj}
theorem PoB.box (h : PoB w W L) (hg : g = W.heap.size) (hb : Below W.heap.size W W') (hx : W'.heap[g]? = some o) : PoB w W' ((g, o) :: L) := by
 refine ⟨below_step h.below hb, fun x hx' => ?_, ?_⟩
 ·rcases List.mem_cons.1 hx' with rfl | hx'
  ·exact ⟨by rw [hg]; exact h.below.size, hx⟩
  ·exact ⟨(h.ge x hx').1, (hb.block _ (mt_lt (h.ge x hx').2)).trans (h.ge x hx').2⟩
 ·rw [List.map_cons, List.nodup_cons]
  refine ⟨fun hm => ?_, h.nd⟩; obtain ⟨x, hx', e⟩ := List.mem_map.1 hm; have := mt_lt (h.ge x hx').2; omega
def ptZ : Obj := .cells #[.int .i64 0, .int .i64 0] 25 (0, 0)
theorem PoB.cellz (h : PoB w W L) (hm : (g, ptZ) ∈ L) : W.cell? ⟨g, 0, none⟩ = some (.int .i64 0) ∧ W.cell? ⟨g, 1, none⟩ = some (.int .i64 0) ∧ W.frozen? ⟨g, 0, none⟩ = false ∧ W.frozen? ⟨g, 1, none⟩ = false := by
 have e := (h.ge _ hm).2
 simp only [ptZ] at e
 refine ⟨by simp [World.cell?, e], by simp [World.cell?, e], by simp [World.frozen?, e], by simp [World.frozen?, e]⟩
theorem PoB.store {A B : List (Nat × Obj)} (p : S25) (h : PoB w W (A ++ (g, ptZ) :: B)) : PoB w ((W.setCell ⟨g, 0, none⟩ (.int .i64 p.f0)).setCell ⟨g, 1, none⟩ (.int .i64 p.f1)) (A ++ (g, ptObj p) :: B) := by
 have e := (h.ge (g, ptZ) (by simp)).2
 have hge := (h.ge (g, ptZ) (by simp)).1
 have hn := h.nd
 rw [List.map_append, List.map_cons, List.nodup_append] at hn
 obtain ⟨_, hn2, hn3⟩ := hn
 rw [List.nodup_cons] at hn2
 have hne : ∀ x ∈ A ++ B, x.1 ≠ g := by
  intro x hx he
  rcases List.mem_append.1 hx with hx | hx
  ·exact hn3 x.1 (List.mem_map_of_mem hx) g (by simp) he
  ·exact hn2.1 (List.mem_map.2 ⟨x, hx, he⟩)
 refine ⟨below_set (below_set h.below hge) hge, fun x hx => ?_, ?_⟩
 ·by_cases hxg : x.1 = g
  ·have : x = (g, ptObj p) := by
    rcases List.mem_append.1 hx with hx | hx
    ·exact absurd hxg (hne x (List.mem_append_left _ hx))
    ·rcases List.mem_cons.1 hx with rfl | hx
     ·rfl
     ·exact absurd hxg (hne x (List.mem_append_right _ hx))
   subst this
   refine ⟨hge, ?_⟩; have s1 : (W.setCell ⟨g, 0, none⟩ (.int .i64 p.f0)).heap[g]? = some (.cells #[.int .i64 p.f0, .int .i64 0] 25 (0, 0)) := by
    show (W.heap.modify g _)[g]? = _
    rw [Array.getElem?_modify, if_pos rfl, show W.heap[g]? = some ptZ from e]; rfl
   generalize W.setCell ⟨g, 0, none⟩ (.int .i64 p.f0) = V at s1
   show (V.heap.modify g _)[g]? = _
   rw [Array.getElem?_modify, if_pos rfl, s1]; rfl
  ·have hx' : x ∈ A ++ (g, ptZ) :: B := by
    rcases List.mem_append.1 hx with hx | hx
    ·exact List.mem_append_left _ hx
    ·rcases List.mem_cons.1 hx with rfl | hx
     ·exact absurd rfl hxg
     ·exact List.mem_append_right _ (List.mem_cons_of_mem _ hx)
   exact ⟨(h.ge x hx').1, (Below.heap_setCell _ ⟨g, 1, none⟩ _ x.1 hxg).trans ((Below.heap_setCell W ⟨g, 0, none⟩ _ x.1 hxg).trans (h.ge x hx').2)⟩
 ·have := h.nd
  simpa using this
end
theorem po_alloc {P : Program} {ops : Array Oper} {Q : Exit → Act → World → Prop} {md : Region.Mode} {ds : List Nat} {fuel N : Nat} {l' : Array Bool} {oi : Oper} {a : Act} {f : Nat → Act} {w W : World} {L : List (Nat × Obj)} {K : Act → World → Prop} (HQ : Aside0 (PoB w W L)) (hK : Shut (∀ a' w', Below w.heap.size w w' → (Below w.heap.size w w' → wpAnyLast P md ops Q (fun w' => Below w.heap.size w w') ds fuel l' a' w') → K a' w'))
  (hr : (execOp a.eval oi).run P W = .ok (.value (.pointer (some ⟨W.heap.size, 0, none⟩))) (W.alloc (.cells #[.int .i64 0, .int .i64 0] 25 (0, 0)))) (ha : ∀ g, a.put (some N) (.pointer (some ⟨g, 0, none⟩)) = f g) (h : ∀ g w1, Aside0 (PoB w w1 ((g, ptZ) :: L)) → wpAnyLast P md ops Q (fun w' => Below w.heap.size w w') ds fuel l' (f g) w1) (hd : oi.dst = some N := by rfl) (hw : Region.wanted oi (yielded ops a.tmps) = true := by rfl) :
  if Region.wanted oi (yielded ops a.tmps) = true then Oper.wp P oi a W K Q else K (a.put (some N) undef) W := by
 rw [← hd] at ha ⊢
 refine box_step hw hd hr (fun g hg w1 hbox hb => ?_)
 have HQ2 := HQ.out.box (o := ptZ) hg hb hbox
 exact hK.out _ _ HQ2.below (fun _ => by rw [ha g]; exact h g w1 ⟨HQ2⟩)
def impl_PolygonOk.f (k : Nat) (l0 : List S25) : Option Bool :=
 if l0.length < 3 then some false else if l0.length > 10 then some false else (impl_arePoints.f k l0).bind fun b => if b = true then poOuter l0 l0.length 0 else some false
theorem impl_PolygonOk.mono : ∀ a0 k, LeO (impl_PolygonOk.f k a0) (impl_PolygonOk.f (k + 1) a0) := by
 intro a0 k
 unfold impl_PolygonOk.f
 exact LeO.ite (LeO.refl _) (LeO.ite (LeO.refl _) (LeO.bind (impl_arePoints.mono _ k) (fun _ => LeO.refl _)))
theorem PoB.four {w W : World} {L : List (Nat × Obj)} {a b c d : Nat} (h : PoB w W L) (ha : (a, ptZ) ∈ L) (hb : (b, ptZ) ∈ L ∧ a ≠ b) (hc : (c, ptZ) ∈ L ∧ a ≠ c ∧ b ≠ c) (hd : (d, ptZ) ∈ L ∧ a ≠ d ∧ b ≠ d ∧ c ≠ d) : PoB w W [(a, ptZ), (b, ptZ), (c, ptZ), (d, ptZ)] := by
 refine ⟨h.below, fun x hx => ?_, ?_⟩
 ·simp only [List.mem_cons, List.not_mem_nil, or_false] at hx
  rcases hx with rfl | rfl | rfl | rfl
  ·exact h.ge _ ha
  ·exact h.ge _ hb.1
  ·exact h.ge _ hc.1
  ·exact h.ge _ hd.1
 ·simp only [List.map_cons, List.map_nil, List.nodup_cons, List.mem_cons, List.not_mem_nil, or_false, not_or, List.nodup_nil, and_true, not_false_eq_true]
  exact ⟨⟨hb.2, hc.2.1, hd.2.1⟩, ⟨hc.2.2, hd.2.2.1⟩, hd.2.2.2⟩
def impl_PolygonOk.T13 : Bool × List (List Nat × List Nat) := (true, [([], []), ([], []), ([0, 1], [0, 1]), ([2], [2]), ([], []), ([], []), ([5], [5]), ([4, 6], [4, 6]), ([7], [7]), ([], []), ([], []), ([9, 10], [9, 10]), ([11], [11]), ([], []), ([], []), ([14], [14]), ([], []), ([15, 16], [15, 16]), ([13, 17], [13, 17]), ([18], [18]), ([], []), ([], []), ([], []), ([], []), ([20, 3, 0, 1, 2, 3, 20, 21, 22, 23], [3, 20]), ([21, 8, 24, 0, 1, 2, 3, 4, 5, 6, 7, 8, 20, 21, 22, 23, 24], [8, 21]), ([22, 12, 25, 0, 1, 2, 3, 4, 5, 6, 7, 8, 9, 10, 11, 12, 20, 21, 22, 23, 24, 25], [12, 22]), ([23, 19, 26, 0, 1, 2, 3, 4, 5, 6, 7, 8, 9, 10, 11, 12, 13, 14, 15, 16, 17, 18, 19, 20, 21, 22, 23, 24, 25, 26], [19, 23])])
def impl_PolygonOk.B13 : List Nat := [0, 0, 3, 7, 0, 0, 32, 112, 240, 0, 0, 1536, 3584, 0, 0, 16384, 0, 114688, 253952, 516096, 0, 0, 0, 0, 15728655, 32506367, 66068479, 134217727]
theorem impl_PolygonOk.tab13 : rtab .any (opsOf Try.f40 13) = impl_PolygonOk.T13 := by kernel_rfl
theorem impl_PolygonOk.bits13 : waitsOk impl_PolygonOk.T13.2 impl_PolygonOk.B13 = true := by kernel_rfl
def impl_PolygonOk.qB (n m : Nat) : Array Bool := ((List.range n).map fun j => m.testBit j).toArray
set_option maxHeartbeats 8000000 in
set_option maxRecDepth 100000 in
theorem impl_PolygonOk.calls (k : Nat) (A0 : Option Addr) (c0 : Nat) (l0 : List S25) (r : Bool) (w : World) (hr0 : Kd.C k25 w A0 l0.length l0) (hc0 : l0.length ≤ c0) (h : impl_PolygonOk.f k l0 = some r) :
  Calls Try.prog 40 #[.slice A0 l0.length c0] w fun e w' => e = .returned (.bool r) ∧ Below w.heap.size w w' := by
 have hu := Try.underlying25
 have HR := Aside0.mk hr0
 have HC := Aside0.mk hc0
 unfold impl_PolygonOk.f at h
 clear hr0 hc0
 by_cases c1 : l0.length < 3
 ·rw [if_pos c1] at h
  obtain rfl := Option.some.inj h; have c1b : decide ((l0.length : Int) < 3) = true := decide_eq_true (by omega); have c1n : decide (l0.length < 3) = true := decide_eq_true c1; clear h c1; go_enter Try.func40, Try.ntmps40; go_wp2
  go_ret
  exact ⟨rfl, Below.refl _ _⟩
 ·rw [if_neg c1] at h
  have c1b : decide ((l0.length : Int) < 3) = false := decide_eq_false (by omega); have c1n : decide (l0.length < 3) = false := decide_eq_false c1; by_cases c2 : l0.length > 10
  ·rw [if_pos c2] at h
   obtain rfl := Option.some.inj h; have c2b : decide (10 < (l0.length : Int)) = true := decide_eq_true (by omega); have c2n : decide (10 < l0.length) = true := decide_eq_true c2; clear h c1 c2; go_enter Try.func40, Try.ntmps40; go_wp2
   go_ret
   exact ⟨rfl, Below.refl _ _⟩
  ·rw [if_neg c2] at h
   have c2b : decide (10 < (l0.length : Int)) = false := decide_eq_false (by omega); have c2n : decide (10 < l0.length) = false := decide_eq_false c2; obtain ⟨bp, hbp, h⟩ := Option.bind_eq_some_iff.mp h; have HBP := Aside0.mk hbp; have HN := Aside0.mk (show 3 ≤ l0.length ∧ l0.length ≤ 10 by omega); clear hbp c1 c2; cases bp with
   | false =>
    obtain rfl := Option.some.inj (show some false = some r by simpa using h); clear h; go_enter Try.func40, Try.ntmps40; go_wp2_with (first | (go_at_call 37; refine (impl_arePoints.calls k A0 c0 l0 false w HR.out HC.out HBP.out).mono ?_; rintro e w2 ⟨rfl, hb⟩; have HB := Aside0.mk hb; clear hb))
    go_ret
    exact ⟨rfl, HB.out⟩
   | true =>
    have h := (show poOuter l0 l0.length 0 = some r by simpa using h); have H := Aside0.mk h; clear h; go_enter Try.func40, Try.ntmps40; go_wp2_with (first | (go_at_call 37; refine (impl_arePoints.calls k A0 c0 l0 true w HR.out HC.out HBP.out).mono ?_; rintro e w2 ⟨rfl, hb⟩; have HB := Aside0.mk hb; clear hb))
    clear c1b c1n c2b c2n; go_loopg [25] l0.length (fun kq v25 w' => ∃ i : Nat, v25 = .int .i64 (i : Int) ∧ Aside0 (kq + i = l0.length) ∧ Aside0 (poOuter l0 kq i = some r) ∧ Aside0 (Below w.heap.size w w'))
    case atStart => exact ⟨0, rfl, ⟨by omega⟩, H, HB⟩
    case round =>
     clear H HB; obtain ⟨i, rfl, HK, HA, HB⟩ := hrel; cases gk with
     | zero =>
      have hi : i = l0.length := by have := HK.out; omega
      have c3b : decide ((i : Int) < (l0.length : Int)) = false := decide_eq_false (by omega); have c3n : decide (i < l0.length) = false := decide_eq_false (by omega); obtain rfl := Option.some.inj (show some true = some r from HA.out); clear hi; go_wp2; go_ret
      exact ⟨rfl, HB.out⟩
     | succ m =>
      have hi : i < l0.length := by have := HK.out; omega
      have c3b : decide ((i : Int) < (l0.length : Int)) = true := decide_eq_true (by omega); have c3n : decide (i < l0.length) = true := decide_eq_true (by omega); obtain ⟨bi, hbi, hrest⟩ := Option.bind_eq_some_iff.mp HA.out; have HBI := Aside0.mk hbi; have HREST := Aside0.mk hrest; have HI := Aside0.mk hi; have w1 : wrap64 ((i : Int) + 1) = ((i + 1 : Nat) : Int) := by rw [show wrap64 ((i : Int) + 1) = (i : Int) + 1 from by have := HN.out.2; unfold wrap64; omega]; rfl
      have W1 := Aside0.mk w1; clear hbi hrest hi HA w1; go_wp2; go_loopg [5] m (fun kq v5 w' => ∃ k : Nat, v5 = .int .i64 (k : Int) ∧ Aside0 (i < k ∧ kq + k = l0.length) ∧ Aside0 (poInner l0 i kq k = some bi) ∧ Aside0 (Below w.heap.size w w'))
      case atStart => exact ⟨i + 1, by first | rfl | (rw [W1.out]), ⟨by omega, by have := HK.out; omega⟩, HBI, HB⟩
      case round =>
       clear HBI HB; obtain ⟨k, rfl, HK2, HA, HB⟩ := hrel; cases gk with
       | zero =>
        have c4b : decide ((k : Int) < (l0.length : Int)) = false := decide_eq_false (by have := HK2.out.2; omega); have c4n : decide (k < l0.length) = false := decide_eq_false (by have := HK2.out.2; omega); obtain rfl := Option.some.inj (show some true = some bi from HA.out); go_wp2; go_roundg m
        case measure => omega
        case rel => exact ⟨i + 1, by first | rfl | (rw [W1.out]), ⟨by have := HK.out; omega⟩, ⟨by simpa using HREST.out⟩, HB⟩
       | succ m2 =>
        have c4b : decide ((k : Int) < (l0.length : Int)) = true := decide_eq_true (by have := HK2.out.2; omega); have c4n : decide (k < l0.length) = true := decide_eq_true (by have := HK2.out.2; omega); obtain ⟨pok, hpb, hrest⟩ := Option.bind_eq_some_iff.mp HA.out; have HPB := Aside0.mk hpb; have HREST2 := Aside0.mk hrest; have HKN := Aside0.mk (show k < l0.length by have := HK2.out.2; omega); clear hpb hrest HA; go_upto_region 11 with (fail)
        go_cut [48] (fun v48 wc => v48 = .bool (decide (k = i + 1 ∨ (i = 0 ∧ k + 1 = l0.length))) ∧ Aside0 (Below w.heap.size w wc))
        case first =>
         have W2 := Aside0.mk (show wrap64 ((l0.length : Int) - 1) = ((l0.length - 1 : Nat) : Int) by rw [show wrap64 ((l0.length : Int) - 1) = (l0.length : Int) - 1 from by have := HN.out; unfold wrap64; omega]; have := HN.out; omega); by_cases c5 : k = i + 1
         ·have c5b : ((k : Int) == wrap64 ((i : Int) + 1)) = true := by rw [W1.out, c5]; exact beq_self_eq_true _
          have HV := Aside0.mk (show decide (k = i + 1 ∨ (i = 0 ∧ k + 1 = l0.length)) = true from decide_eq_true (Or.inl c5)); (first | rw [c5b] | (simp only [i64_w, i32_w]; rw [c5b]) | skip); clear c5; go_wp2; go_meet
          case rel => exact ⟨by rw [HV.out], HB⟩
         ·have c5b : ((k : Int) == wrap64 ((i : Int) + 1)) = false := beq_eq_false_iff_ne.mpr (by rw [W1.out]; omega)
          (first | rw [c5b] | (simp only [i64_w, i32_w]; rw [c5b]) | skip)
          by_cases c6 : i = 0
          ·have c6b : ((i : Int) == 0) = true := beq_iff_eq.mpr (by omega)
           have HV := Aside0.mk (show decide (k = i + 1 ∨ (i = 0 ∧ k + 1 = l0.length)) = ((k : Int) == ((l0.length - 1 : Nat) : Int)) from by
            by_cases c7 : k + 1 = l0.length
            ·rw [decide_eq_true (show k = i + 1 ∨ (i = 0 ∧ k + 1 = l0.length) from Or.inr ⟨c6, c7⟩), beq_iff_eq.mpr (show (k : Int) = ((l0.length - 1 : Nat) : Int) by have := HN.out; omega)]
            ·rw [decide_eq_false (show ¬ (k = i + 1 ∨ (i = 0 ∧ k + 1 = l0.length)) by omega), beq_eq_false_iff_ne.mpr (show (k : Int) ≠ ((l0.length - 1 : Nat) : Int) by have := HN.out; omega)])
           clear c5 c6; go_wp2; go_meet
           case rel => exact ⟨by rw [HV.out, ← W2.out], HB⟩
          ·have c6b : ((i : Int) == 0) = false := beq_eq_false_iff_ne.mpr (by omega)
           have HV := Aside0.mk (show decide (k = i + 1 ∨ (i = 0 ∧ k + 1 = l0.length)) = false from decide_eq_false (by omega)); clear c5 c6; go_wp2; go_meet
           case rel => exact ⟨by rw [HV.out], HB⟩
        case rest =>
         clear HB; obtain ⟨rfl, HB⟩ := hcut; have HWT := Aside0.mk (show (if k = i + 1 ∨ (i = 0 ∧ k + 1 = l0.length) then (1 : Int) else 0) = if decide (k = i + 1 ∨ (i = 0 ∧ k + 1 = l0.length)) = true then 1 else 0 by simp only [decide_eq_true_eq]); generalize decide (k = i + 1 ∨ (i = 0 ∧ k + 1 = l0.length)) = cw at HWT ⊢; obtain ⟨wt, hwt⟩ : ∃ z_ : Int, (if cw = true then (1 : Int) else 0) = z_ := ⟨_, rfl⟩; have HWV := Aside0.mk hwt; clear hwt; go_upto_if 48 with (fail)
         go_cut [6] (fun v6 wc => v6 = .int .i64 wt ∧ Aside0 (Below w.heap.size w wc))
         case first =>
          cases cw with
          | true =>
           go_wp2
           go_meet
           case rel => exact ⟨by rw [← HWV.out]; rfl, HB⟩
          | false =>
           go_wp2
           go_meet
           case rel => exact ⟨by rw [← HWV.out]; rfl, HB⟩
         case rest =>
          clear HB; obtain ⟨rfl, HB⟩ := hcut; have HWT := Aside0.mk (HWT.out.trans HWV.out); clear HWV; obtain ⟨j1, hj1⟩ : ∃ j_ : Int, wrap64 ((i : Int) + 1) = j_ := ⟨_, rfl⟩; have E1 := Aside0.mk (show ((i + 1 : Nat) : Int) = j1 from W1.out.symm.trans hj1); have hj1w : IntKind.i64.wrap ((i : Int) + 1) = j1 := (i64_w _).trans hj1; have WK := Aside0.mk (show wrap64 ((k : Int) + 1) = ((k + 1 : Nat) : Int) by rw [show wrap64 ((k : Int) + 1) = (k : Int) + 1 from by have := HN.out.2; have := HKN.out; unfold wrap64; omega]; rfl); obtain ⟨j2, hj2⟩ : ∃ j_ : Int, Int.tmod (wrap64 ((k : Int) + 1)) (l0.length : Int) = j_ := ⟨_, rfl⟩; have E2 := Aside0.mk (show (((k + 1) % l0.length : Nat) : Int) = j2 by rw [← hj2, WK.out]; exact (Int.ofNat_tmod _ _).symm); have c8b : decide (0 ≤ j1) = true := decide_eq_true (by rw [← E1.out]; omega); have c8c : (0 ≤ j1) = True := eq_true (by rw [← E1.out]; omega); have c8d : decide (j1 < (l0.length : Int)) = true := decide_eq_true (by rw [← E1.out]; have := HK2.out; omega); have c8e : (j1 < (l0.length : Int)) = True := eq_true (by rw [← E1.out]; have := HK2.out; omega); have hlt2 : (k + 1) % l0.length < l0.length := Nat.mod_lt _ (by have := HN.out; omega); have c9b : decide (0 ≤ j2) = true := decide_eq_true (by rw [← E2.out]; omega); have c9c : (0 ≤ j2) = True := eq_true (by rw [← E2.out]; omega); have c9d : decide (j2 < (l0.length : Int)) = true := decide_eq_true (by rw [← E2.out]; omega); have c9e : (j2 < (l0.length : Int)) = True := eq_true (by rw [← E2.out]; omega); have c21b0 : ((l0.length : Int) == 0) = false := beq_eq_false_iff_ne.mpr (by have := HN.out; omega); have c21b1 : ((l0.length : Int) != 0) = true := bne_iff_ne.mpr (by have := HN.out; omega); have c21b2 : ¬ (l0 = []) := fun h_ => by have := HN.out.1; rw [h_] at this; simp at this
          have d1 : decide ((i : Int) < (l0.length : Int)) = true := decide_eq_true (by have := HI.out; omega); have d2 : ((i : Int) < (l0.length : Int)) = True := eq_true (by have := HI.out; omega); have d3 : decide ((k : Int) < (l0.length : Int)) = true := decide_eq_true (by have := HKN.out; omega); have d4 : ((k : Int) < (l0.length : Int)) = True := eq_true (by have := HKN.out; omega); clear hlt2; obtain ⟨ad, ea, ha0, ha1⟩ := at_T25 HR.out (i : Int) (by omega) (of_eq_true d2); subst ea; obtain ⟨ad2, eb, hb0, hb1⟩ := at_T25 HR.out j1 (of_eq_true c8c) (of_eq_true c8e); obtain rfl : ad = ad2 := by injection eb
          obtain ⟨ad2, ec, hc0, hc1⟩ := at_T25 HR.out (k : Int) (by omega) (of_eq_true d4); obtain rfl : ad = ad2 := by injection ec
          obtain ⟨ad2, ed, hd0, hd1⟩ := at_T25 HR.out j2 (of_eq_true c9c) (of_eq_true c9e); obtain rfl : ad = ad2 := by injection ed
          clear eb ec ed; simp only [Int.toNat_natCast] at ha0 ha1 hc0 hc1; have hp := HPB.out; unfold poPair at hp; rw [E1.out, E2.out] at hp; generalize rd_T25 l0 (i : Int) = pa at hp ha0 ha1; generalize rd_T25 l0 j1 = pb at hp hb0 hb1
          generalize rd_T25 l0 (k : Int) = pc at hp hc0 hc1
          generalize rd_T25 l0 j2 = pd at hp hd0 hd1
          have HP := Aside0.mk hp; clear hp; go_upto_region 13 with (fail)
          go_cut [7, 8, 9, 10] (fun v7 v8 v9 v10 wd => ∃ g7 g8 g9 g10 : Nat, v7 = .pointer (some ⟨g7, 0, none⟩) ∧ v8 = .pointer (some ⟨g8, 0, none⟩) ∧ v9 = .pointer (some ⟨g9, 0, none⟩) ∧ v10 = .pointer (some ⟨g10, 0, none⟩) ∧ Aside0 (PoB w wd [(g7, ptObj pa), (g8, ptObj pb), (g9, ptObj pc), (g10, ptObj pd)]))
          case first =>
           refine start_ (n := 28) (S := fun w' => Below w.heap.size w w') (ds := []) (qD_ 28 0) (by kernel_rfl) rfl rfl (below_drew1 HB.out) (fun hHeld => ?_); refine with_tabW impl_PolygonOk.tab13 impl_PolygonOk.bits13 (fun HT_ HW_ => ?_); clear HB; have HQ : Aside0 (PoB w wc.drew []) := ⟨⟨hHeld, fun x hx => absurd hx (by simp), by simp⟩⟩; generalize wc.drew = wd at HQ hHeld ⊢; iterate 20 (first | (refine hz_ HT_ ?zy ?zp ?_ (v := ?_) (a' := ?_); (case zy => intro w'; go_simp; with_reducible rfl); (case zp => simp only [Act.put, List.setIfInBounds_toArray, List.set_cons_zero, List.set_cons_succ, i64_w, i32_w]; rfl)) | (refine ht_ HT_ HW_ hHeld ?zy ?zp ?_ (v := ?_) (a' := ?_); (case zy => rintro w' s_; have t0_ := (s_.cell (World.block_lt_of_cell? w _ ha0)).trans ha0; have t1_ := (s_.cell (World.block_lt_of_cell? w _ ha1)).trans ha1; have t2_ := (s_.cell (World.block_lt_of_cell? w _ hb0)).trans hb0; have t3_ := (s_.cell (World.block_lt_of_cell? w _ hb1)).trans hb1; have t4_ := (s_.cell (World.block_lt_of_cell? w _ hc0)).trans hc0; have t5_ := (s_.cell (World.block_lt_of_cell? w _ hc1)).trans hc1; have t6_ := (s_.cell (World.block_lt_of_cell? w _ hd0)).trans hd0; have t7_ := (s_.cell (World.block_lt_of_cell? w _ hd1)).trans hd1; go_simp; with_reducible rfl); (case zp => simp only [Act.put, List.setIfInBounds_toArray, List.set_cons_zero, List.set_cons_succ, i64_w, i32_w]; rfl)))
           refine join_ (σ := Nat × Nat × Nat × Nat) 4 (impl_PolygonOk.qB 28 16777215) (fun s_ => [(7, .pointer (some ⟨s_.1, 0, none⟩)), (8, .pointer (some ⟨s_.2.1, 0, none⟩)), (9, .pointer (some ⟨s_.2.2.1, 0, none⟩)), (10, .pointer (some ⟨s_.2.2.2, 0, none⟩))]) (fun s_ w' => PoB w w' [(s_.1, ptZ), (s_.2.1, ptZ), (s_.2.2.1, ptZ), (s_.2.2.2, ptZ)]) ?_ ?_; rotate_left
           ·intro hJ
            refine four_ (i := 20) (j := 21) (k := 22) (m := 23) (Ni := some 7) (Nj := some 8) (Nk := some 9) (Nm := some 10) (impl_PolygonOk.qB 28 2097151) (impl_PolygonOk.qB 28 3145727) (impl_PolygonOk.qB 28 5242879) (impl_PolygonOk.qB 28 9437183) rfl rfl rfl rfl rfl rfl rfl rfl (four_of HT_.out (by kernel_rfl)) (by decide) (by decide) (by decide) (by decide) (fun K hK => ?_) (fun K hK => ?_) (fun K hK => ?_) (fun K hK => ?_)
            ·refine po_alloc HQ hK ?hr ?ha (fun g7 w47 HQ => ?_) (f := ?_); (case hr => first | (go_simp; done) | (go_simp; rfl)); (case ha => intro g_; simp only [Act.put, List.setIfInBounds_toArray, List.set_cons_zero, List.set_cons_succ]; rfl)
             refine three_ (i := 21) (j := 22) (k := 23) (Ni := some 8) (Nj := some 9) (Nk := some 10) (impl_PolygonOk.qB 28 4194303) (impl_PolygonOk.qB 28 6291455) (impl_PolygonOk.qB 28 10485759) rfl rfl rfl rfl rfl rfl (three_of HT_.out (by kernel_rfl)) (by decide) (by decide) (by decide) (fun K hK => ?_) (fun K hK => ?_) (fun K hK => ?_)
             ·refine po_alloc HQ hK ?hr ?ha (fun g8 w48 HQ => ?_) (f := ?_); (case hr => first | (go_simp; done) | (go_simp; rfl)); (case ha => intro g_; simp only [Act.put, List.setIfInBounds_toArray, List.set_cons_zero, List.set_cons_succ]; rfl)
              refine two_ (i := 22) (j := 23) (Ni := some 9) (Nj := some 10) (impl_PolygonOk.qB 28 8388607) (impl_PolygonOk.qB 28 12582911) rfl rfl rfl rfl (two_of HT_.out (by kernel_rfl)) (by decide) (by decide) (fun K hK => ?_) (fun K hK => ?_)
              ·refine po_alloc HQ hK ?hr ?ha (fun g9 w49 HQ => ?_) (f := ?_); (case hr => first | (go_simp; done) | (go_simp; rfl)); (case ha => intro g_; simp only [Act.put, List.setIfInBounds_toArray, List.set_cons_zero, List.set_cons_succ]; rfl)
               refine one_ (i := 23) (N := some 10) (impl_PolygonOk.qB 28 16777215) rfl rfl (one_of HT_.out (by kernel_rfl)) (by decide) (fun K hK => ?_); refine po_alloc HQ hK ?hr ?ha (fun g10 w50 HQ => ?_) (f := ?_); (case hr => first | (go_simp; done) | (go_simp; rfl)); (case ha => intro g_; simp only [Act.put, List.setIfInBounds_toArray, List.set_cons_zero, List.set_cons_succ]; rfl); exact norm_ (by first | (simp only [putAll, Act.put, List.setIfInBounds_toArray, List.set_cons_zero, List.set_cons_succ]; done) | (simp only [putAll, Act.put, List.setIfInBounds_toArray, List.set_cons_zero, List.set_cons_succ]; rfl)) (hJ (g7, g8, g9, g10) _ (by have hn_ := HQ.out.nd; simp only [List.map_cons, List.map_nil, List.nodup_cons, List.mem_cons, List.not_mem_nil, or_false, not_or, List.nodup_nil, and_true, not_false_eq_true] at hn_; exact PoB.four (a := g7) (b := g8) (c := g9) (d := g10) HQ.out (by simp) ⟨by simp, by omega⟩ ⟨by simp, by omega, by omega⟩ ⟨by simp, by omega, by omega, by omega⟩))
              ·refine po_alloc HQ hK ?hr ?ha (fun g10 w50 HQ => ?_) (f := ?_); (case hr => first | (go_simp; done) | (go_simp; rfl)); (case ha => intro g_; simp only [Act.put, List.setIfInBounds_toArray, List.set_cons_zero, List.set_cons_succ]; rfl)
               refine one_ (i := 22) (N := some 9) (impl_PolygonOk.qB 28 16777215) rfl rfl (one_of HT_.out (by kernel_rfl)) (by decide) (fun K hK => ?_); refine po_alloc HQ hK ?hr ?ha (fun g9 w49 HQ => ?_) (f := ?_); (case hr => first | (go_simp; done) | (go_simp; rfl)); (case ha => intro g_; simp only [Act.put, List.setIfInBounds_toArray, List.set_cons_zero, List.set_cons_succ]; rfl); exact norm_ (by first | (simp only [putAll, Act.put, List.setIfInBounds_toArray, List.set_cons_zero, List.set_cons_succ]; done) | (simp only [putAll, Act.put, List.setIfInBounds_toArray, List.set_cons_zero, List.set_cons_succ]; rfl)) (hJ (g7, g8, g9, g10) _ (by have hn_ := HQ.out.nd; simp only [List.map_cons, List.map_nil, List.nodup_cons, List.mem_cons, List.not_mem_nil, or_false, not_or, List.nodup_nil, and_true, not_false_eq_true] at hn_; exact PoB.four (a := g7) (b := g8) (c := g9) (d := g10) HQ.out (by simp) ⟨by simp, by omega⟩ ⟨by simp, by omega, by omega⟩ ⟨by simp, by omega, by omega, by omega⟩))
             ·refine po_alloc HQ hK ?hr ?ha (fun g9 w49 HQ => ?_) (f := ?_); (case hr => first | (go_simp; done) | (go_simp; rfl)); (case ha => intro g_; simp only [Act.put, List.setIfInBounds_toArray, List.set_cons_zero, List.set_cons_succ]; rfl)
              refine two_ (i := 21) (j := 23) (Ni := some 8) (Nj := some 10) (impl_PolygonOk.qB 28 8388607) (impl_PolygonOk.qB 28 14680063) rfl rfl rfl rfl (two_of HT_.out (by kernel_rfl)) (by decide) (by decide) (fun K hK => ?_) (fun K hK => ?_)
              ·refine po_alloc HQ hK ?hr ?ha (fun g8 w48 HQ => ?_) (f := ?_); (case hr => first | (go_simp; done) | (go_simp; rfl)); (case ha => intro g_; simp only [Act.put, List.setIfInBounds_toArray, List.set_cons_zero, List.set_cons_succ]; rfl)
               refine one_ (i := 23) (N := some 10) (impl_PolygonOk.qB 28 16777215) rfl rfl (one_of HT_.out (by kernel_rfl)) (by decide) (fun K hK => ?_); refine po_alloc HQ hK ?hr ?ha (fun g10 w50 HQ => ?_) (f := ?_); (case hr => first | (go_simp; done) | (go_simp; rfl)); (case ha => intro g_; simp only [Act.put, List.setIfInBounds_toArray, List.set_cons_zero, List.set_cons_succ]; rfl); exact norm_ (by first | (simp only [putAll, Act.put, List.setIfInBounds_toArray, List.set_cons_zero, List.set_cons_succ]; done) | (simp only [putAll, Act.put, List.setIfInBounds_toArray, List.set_cons_zero, List.set_cons_succ]; rfl)) (hJ (g7, g8, g9, g10) _ (by have hn_ := HQ.out.nd; simp only [List.map_cons, List.map_nil, List.nodup_cons, List.mem_cons, List.not_mem_nil, or_false, not_or, List.nodup_nil, and_true, not_false_eq_true] at hn_; exact PoB.four (a := g7) (b := g8) (c := g9) (d := g10) HQ.out (by simp) ⟨by simp, by omega⟩ ⟨by simp, by omega, by omega⟩ ⟨by simp, by omega, by omega, by omega⟩))
              ·refine po_alloc HQ hK ?hr ?ha (fun g10 w50 HQ => ?_) (f := ?_); (case hr => first | (go_simp; done) | (go_simp; rfl)); (case ha => intro g_; simp only [Act.put, List.setIfInBounds_toArray, List.set_cons_zero, List.set_cons_succ]; rfl)
               refine one_ (i := 21) (N := some 8) (impl_PolygonOk.qB 28 16777215) rfl rfl (one_of HT_.out (by kernel_rfl)) (by decide) (fun K hK => ?_); refine po_alloc HQ hK ?hr ?ha (fun g8 w48 HQ => ?_) (f := ?_); (case hr => first | (go_simp; done) | (go_simp; rfl)); (case ha => intro g_; simp only [Act.put, List.setIfInBounds_toArray, List.set_cons_zero, List.set_cons_succ]; rfl); exact norm_ (by first | (simp only [putAll, Act.put, List.setIfInBounds_toArray, List.set_cons_zero, List.set_cons_succ]; done) | (simp only [putAll, Act.put, List.setIfInBounds_toArray, List.set_cons_zero, List.set_cons_succ]; rfl)) (hJ (g7, g8, g9, g10) _ (by have hn_ := HQ.out.nd; simp only [List.map_cons, List.map_nil, List.nodup_cons, List.mem_cons, List.not_mem_nil, or_false, not_or, List.nodup_nil, and_true, not_false_eq_true] at hn_; exact PoB.four (a := g7) (b := g8) (c := g9) (d := g10) HQ.out (by simp) ⟨by simp, by omega⟩ ⟨by simp, by omega, by omega⟩ ⟨by simp, by omega, by omega, by omega⟩))
             ·refine po_alloc HQ hK ?hr ?ha (fun g10 w50 HQ => ?_) (f := ?_); (case hr => first | (go_simp; done) | (go_simp; rfl)); (case ha => intro g_; simp only [Act.put, List.setIfInBounds_toArray, List.set_cons_zero, List.set_cons_succ]; rfl)
              refine two_ (i := 21) (j := 22) (Ni := some 8) (Nj := some 9) (impl_PolygonOk.qB 28 12582911) (impl_PolygonOk.qB 28 14680063) rfl rfl rfl rfl (two_of HT_.out (by kernel_rfl)) (by decide) (by decide) (fun K hK => ?_) (fun K hK => ?_)
              ·refine po_alloc HQ hK ?hr ?ha (fun g8 w48 HQ => ?_) (f := ?_); (case hr => first | (go_simp; done) | (go_simp; rfl)); (case ha => intro g_; simp only [Act.put, List.setIfInBounds_toArray, List.set_cons_zero, List.set_cons_succ]; rfl)
               refine one_ (i := 22) (N := some 9) (impl_PolygonOk.qB 28 16777215) rfl rfl (one_of HT_.out (by kernel_rfl)) (by decide) (fun K hK => ?_); refine po_alloc HQ hK ?hr ?ha (fun g9 w49 HQ => ?_) (f := ?_); (case hr => first | (go_simp; done) | (go_simp; rfl)); (case ha => intro g_; simp only [Act.put, List.setIfInBounds_toArray, List.set_cons_zero, List.set_cons_succ]; rfl); exact norm_ (by first | (simp only [putAll, Act.put, List.setIfInBounds_toArray, List.set_cons_zero, List.set_cons_succ]; done) | (simp only [putAll, Act.put, List.setIfInBounds_toArray, List.set_cons_zero, List.set_cons_succ]; rfl)) (hJ (g7, g8, g9, g10) _ (by have hn_ := HQ.out.nd; simp only [List.map_cons, List.map_nil, List.nodup_cons, List.mem_cons, List.not_mem_nil, or_false, not_or, List.nodup_nil, and_true, not_false_eq_true] at hn_; exact PoB.four (a := g7) (b := g8) (c := g9) (d := g10) HQ.out (by simp) ⟨by simp, by omega⟩ ⟨by simp, by omega, by omega⟩ ⟨by simp, by omega, by omega, by omega⟩))
              ·refine po_alloc HQ hK ?hr ?ha (fun g9 w49 HQ => ?_) (f := ?_); (case hr => first | (go_simp; done) | (go_simp; rfl)); (case ha => intro g_; simp only [Act.put, List.setIfInBounds_toArray, List.set_cons_zero, List.set_cons_succ]; rfl)
               refine one_ (i := 21) (N := some 8) (impl_PolygonOk.qB 28 16777215) rfl rfl (one_of HT_.out (by kernel_rfl)) (by decide) (fun K hK => ?_); refine po_alloc HQ hK ?hr ?ha (fun g8 w48 HQ => ?_) (f := ?_); (case hr => first | (go_simp; done) | (go_simp; rfl)); (case ha => intro g_; simp only [Act.put, List.setIfInBounds_toArray, List.set_cons_zero, List.set_cons_succ]; rfl); exact norm_ (by first | (simp only [putAll, Act.put, List.setIfInBounds_toArray, List.set_cons_zero, List.set_cons_succ]; done) | (simp only [putAll, Act.put, List.setIfInBounds_toArray, List.set_cons_zero, List.set_cons_succ]; rfl)) (hJ (g7, g8, g9, g10) _ (by have hn_ := HQ.out.nd; simp only [List.map_cons, List.map_nil, List.nodup_cons, List.mem_cons, List.not_mem_nil, or_false, not_or, List.nodup_nil, and_true, not_false_eq_true] at hn_; exact PoB.four (a := g7) (b := g8) (c := g9) (d := g10) HQ.out (by simp) ⟨by simp, by omega⟩ ⟨by simp, by omega, by omega⟩ ⟨by simp, by omega, by omega, by omega⟩))
            ·refine po_alloc HQ hK ?hr ?ha (fun g8 w48 HQ => ?_) (f := ?_); (case hr => first | (go_simp; done) | (go_simp; rfl)); (case ha => intro g_; simp only [Act.put, List.setIfInBounds_toArray, List.set_cons_zero, List.set_cons_succ]; rfl)
             refine three_ (i := 20) (j := 22) (k := 23) (Ni := some 7) (Nj := some 9) (Nk := some 10) (impl_PolygonOk.qB 28 4194303) (impl_PolygonOk.qB 28 7340031) (impl_PolygonOk.qB 28 11534335) rfl rfl rfl rfl rfl rfl (three_of HT_.out (by kernel_rfl)) (by decide) (by decide) (by decide) (fun K hK => ?_) (fun K hK => ?_) (fun K hK => ?_)
             ·refine po_alloc HQ hK ?hr ?ha (fun g7 w47 HQ => ?_) (f := ?_); (case hr => first | (go_simp; done) | (go_simp; rfl)); (case ha => intro g_; simp only [Act.put, List.setIfInBounds_toArray, List.set_cons_zero, List.set_cons_succ]; rfl)
              refine two_ (i := 22) (j := 23) (Ni := some 9) (Nj := some 10) (impl_PolygonOk.qB 28 8388607) (impl_PolygonOk.qB 28 12582911) rfl rfl rfl rfl (two_of HT_.out (by kernel_rfl)) (by decide) (by decide) (fun K hK => ?_) (fun K hK => ?_)
              ·refine po_alloc HQ hK ?hr ?ha (fun g9 w49 HQ => ?_) (f := ?_); (case hr => first | (go_simp; done) | (go_simp; rfl)); (case ha => intro g_; simp only [Act.put, List.setIfInBounds_toArray, List.set_cons_zero, List.set_cons_succ]; rfl)
               refine one_ (i := 23) (N := some 10) (impl_PolygonOk.qB 28 16777215) rfl rfl (one_of HT_.out (by kernel_rfl)) (by decide) (fun K hK => ?_); refine po_alloc HQ hK ?hr ?ha (fun g10 w50 HQ => ?_) (f := ?_); (case hr => first | (go_simp; done) | (go_simp; rfl)); (case ha => intro g_; simp only [Act.put, List.setIfInBounds_toArray, List.set_cons_zero, List.set_cons_succ]; rfl); exact norm_ (by first | (simp only [putAll, Act.put, List.setIfInBounds_toArray, List.set_cons_zero, List.set_cons_succ]; done) | (simp only [putAll, Act.put, List.setIfInBounds_toArray, List.set_cons_zero, List.set_cons_succ]; rfl)) (hJ (g7, g8, g9, g10) _ (by have hn_ := HQ.out.nd; simp only [List.map_cons, List.map_nil, List.nodup_cons, List.mem_cons, List.not_mem_nil, or_false, not_or, List.nodup_nil, and_true, not_false_eq_true] at hn_; exact PoB.four (a := g7) (b := g8) (c := g9) (d := g10) HQ.out (by simp) ⟨by simp, by omega⟩ ⟨by simp, by omega, by omega⟩ ⟨by simp, by omega, by omega, by omega⟩))
              ·refine po_alloc HQ hK ?hr ?ha (fun g10 w50 HQ => ?_) (f := ?_); (case hr => first | (go_simp; done) | (go_simp; rfl)); (case ha => intro g_; simp only [Act.put, List.setIfInBounds_toArray, List.set_cons_zero, List.set_cons_succ]; rfl)
               refine one_ (i := 22) (N := some 9) (impl_PolygonOk.qB 28 16777215) rfl rfl (one_of HT_.out (by kernel_rfl)) (by decide) (fun K hK => ?_); refine po_alloc HQ hK ?hr ?ha (fun g9 w49 HQ => ?_) (f := ?_); (case hr => first | (go_simp; done) | (go_simp; rfl)); (case ha => intro g_; simp only [Act.put, List.setIfInBounds_toArray, List.set_cons_zero, List.set_cons_succ]; rfl); exact norm_ (by first | (simp only [putAll, Act.put, List.setIfInBounds_toArray, List.set_cons_zero, List.set_cons_succ]; done) | (simp only [putAll, Act.put, List.setIfInBounds_toArray, List.set_cons_zero, List.set_cons_succ]; rfl)) (hJ (g7, g8, g9, g10) _ (by have hn_ := HQ.out.nd; simp only [List.map_cons, List.map_nil, List.nodup_cons, List.mem_cons, List.not_mem_nil, or_false, not_or, List.nodup_nil, and_true, not_false_eq_true] at hn_; exact PoB.four (a := g7) (b := g8) (c := g9) (d := g10) HQ.out (by simp) ⟨by simp, by omega⟩ ⟨by simp, by omega, by omega⟩ ⟨by simp, by omega, by omega, by omega⟩))
             ·refine po_alloc HQ hK ?hr ?ha (fun g9 w49 HQ => ?_) (f := ?_); (case hr => first | (go_simp; done) | (go_simp; rfl)); (case ha => intro g_; simp only [Act.put, List.setIfInBounds_toArray, List.set_cons_zero, List.set_cons_succ]; rfl)
              refine two_ (i := 20) (j := 23) (Ni := some 7) (Nj := some 10) (impl_PolygonOk.qB 28 8388607) (impl_PolygonOk.qB 28 15728639) rfl rfl rfl rfl (two_of HT_.out (by kernel_rfl)) (by decide) (by decide) (fun K hK => ?_) (fun K hK => ?_)
              ·refine po_alloc HQ hK ?hr ?ha (fun g7 w47 HQ => ?_) (f := ?_); (case hr => first | (go_simp; done) | (go_simp; rfl)); (case ha => intro g_; simp only [Act.put, List.setIfInBounds_toArray, List.set_cons_zero, List.set_cons_succ]; rfl)
               refine one_ (i := 23) (N := some 10) (impl_PolygonOk.qB 28 16777215) rfl rfl (one_of HT_.out (by kernel_rfl)) (by decide) (fun K hK => ?_); refine po_alloc HQ hK ?hr ?ha (fun g10 w50 HQ => ?_) (f := ?_); (case hr => first | (go_simp; done) | (go_simp; rfl)); (case ha => intro g_; simp only [Act.put, List.setIfInBounds_toArray, List.set_cons_zero, List.set_cons_succ]; rfl); exact norm_ (by first | (simp only [putAll, Act.put, List.setIfInBounds_toArray, List.set_cons_zero, List.set_cons_succ]; done) | (simp only [putAll, Act.put, List.setIfInBounds_toArray, List.set_cons_zero, List.set_cons_succ]; rfl)) (hJ (g7, g8, g9, g10) _ (by have hn_ := HQ.out.nd; simp only [List.map_cons, List.map_nil, List.nodup_cons, List.mem_cons, List.not_mem_nil, or_false, not_or, List.nodup_nil, and_true, not_false_eq_true] at hn_; exact PoB.four (a := g7) (b := g8) (c := g9) (d := g10) HQ.out (by simp) ⟨by simp, by omega⟩ ⟨by simp, by omega, by omega⟩ ⟨by simp, by omega, by omega, by omega⟩))
              ·refine po_alloc HQ hK ?hr ?ha (fun g10 w50 HQ => ?_) (f := ?_); (case hr => first | (go_simp; done) | (go_simp; rfl)); (case ha => intro g_; simp only [Act.put, List.setIfInBounds_toArray, List.set_cons_zero, List.set_cons_succ]; rfl)
               refine one_ (i := 20) (N := some 7) (impl_PolygonOk.qB 28 16777215) rfl rfl (one_of HT_.out (by kernel_rfl)) (by decide) (fun K hK => ?_); refine po_alloc HQ hK ?hr ?ha (fun g7 w47 HQ => ?_) (f := ?_); (case hr => first | (go_simp; done) | (go_simp; rfl)); (case ha => intro g_; simp only [Act.put, List.setIfInBounds_toArray, List.set_cons_zero, List.set_cons_succ]; rfl); exact norm_ (by first | (simp only [putAll, Act.put, List.setIfInBounds_toArray, List.set_cons_zero, List.set_cons_succ]; done) | (simp only [putAll, Act.put, List.setIfInBounds_toArray, List.set_cons_zero, List.set_cons_succ]; rfl)) (hJ (g7, g8, g9, g10) _ (by have hn_ := HQ.out.nd; simp only [List.map_cons, List.map_nil, List.nodup_cons, List.mem_cons, List.not_mem_nil, or_false, not_or, List.nodup_nil, and_true, not_false_eq_true] at hn_; exact PoB.four (a := g7) (b := g8) (c := g9) (d := g10) HQ.out (by simp) ⟨by simp, by omega⟩ ⟨by simp, by omega, by omega⟩ ⟨by simp, by omega, by omega, by omega⟩))
             ·refine po_alloc HQ hK ?hr ?ha (fun g10 w50 HQ => ?_) (f := ?_); (case hr => first | (go_simp; done) | (go_simp; rfl)); (case ha => intro g_; simp only [Act.put, List.setIfInBounds_toArray, List.set_cons_zero, List.set_cons_succ]; rfl)
              refine two_ (i := 20) (j := 22) (Ni := some 7) (Nj := some 9) (impl_PolygonOk.qB 28 12582911) (impl_PolygonOk.qB 28 15728639) rfl rfl rfl rfl (two_of HT_.out (by kernel_rfl)) (by decide) (by decide) (fun K hK => ?_) (fun K hK => ?_)
              ·refine po_alloc HQ hK ?hr ?ha (fun g7 w47 HQ => ?_) (f := ?_); (case hr => first | (go_simp; done) | (go_simp; rfl)); (case ha => intro g_; simp only [Act.put, List.setIfInBounds_toArray, List.set_cons_zero, List.set_cons_succ]; rfl)
               refine one_ (i := 22) (N := some 9) (impl_PolygonOk.qB 28 16777215) rfl rfl (one_of HT_.out (by kernel_rfl)) (by decide) (fun K hK => ?_); refine po_alloc HQ hK ?hr ?ha (fun g9 w49 HQ => ?_) (f := ?_); (case hr => first | (go_simp; done) | (go_simp; rfl)); (case ha => intro g_; simp only [Act.put, List.setIfInBounds_toArray, List.set_cons_zero, List.set_cons_succ]; rfl); exact norm_ (by first | (simp only [putAll, Act.put, List.setIfInBounds_toArray, List.set_cons_zero, List.set_cons_succ]; done) | (simp only [putAll, Act.put, List.setIfInBounds_toArray, List.set_cons_zero, List.set_cons_succ]; rfl)) (hJ (g7, g8, g9, g10) _ (by have hn_ := HQ.out.nd; simp only [List.map_cons, List.map_nil, List.nodup_cons, List.mem_cons, List.not_mem_nil, or_false, not_or, List.nodup_nil, and_true, not_false_eq_true] at hn_; exact PoB.four (a := g7) (b := g8) (c := g9) (d := g10) HQ.out (by simp) ⟨by simp, by omega⟩ ⟨by simp, by omega, by omega⟩ ⟨by simp, by omega, by omega, by omega⟩))
              ·refine po_alloc HQ hK ?hr ?ha (fun g9 w49 HQ => ?_) (f := ?_); (case hr => first | (go_simp; done) | (go_simp; rfl)); (case ha => intro g_; simp only [Act.put, List.setIfInBounds_toArray, List.set_cons_zero, List.set_cons_succ]; rfl)
               refine one_ (i := 20) (N := some 7) (impl_PolygonOk.qB 28 16777215) rfl rfl (one_of HT_.out (by kernel_rfl)) (by decide) (fun K hK => ?_); refine po_alloc HQ hK ?hr ?ha (fun g7 w47 HQ => ?_) (f := ?_); (case hr => first | (go_simp; done) | (go_simp; rfl)); (case ha => intro g_; simp only [Act.put, List.setIfInBounds_toArray, List.set_cons_zero, List.set_cons_succ]; rfl); exact norm_ (by first | (simp only [putAll, Act.put, List.setIfInBounds_toArray, List.set_cons_zero, List.set_cons_succ]; done) | (simp only [putAll, Act.put, List.setIfInBounds_toArray, List.set_cons_zero, List.set_cons_succ]; rfl)) (hJ (g7, g8, g9, g10) _ (by have hn_ := HQ.out.nd; simp only [List.map_cons, List.map_nil, List.nodup_cons, List.mem_cons, List.not_mem_nil, or_false, not_or, List.nodup_nil, and_true, not_false_eq_true] at hn_; exact PoB.four (a := g7) (b := g8) (c := g9) (d := g10) HQ.out (by simp) ⟨by simp, by omega⟩ ⟨by simp, by omega, by omega⟩ ⟨by simp, by omega, by omega, by omega⟩))
            ·refine po_alloc HQ hK ?hr ?ha (fun g9 w49 HQ => ?_) (f := ?_); (case hr => first | (go_simp; done) | (go_simp; rfl)); (case ha => intro g_; simp only [Act.put, List.setIfInBounds_toArray, List.set_cons_zero, List.set_cons_succ]; rfl)
             refine three_ (i := 20) (j := 21) (k := 23) (Ni := some 7) (Nj := some 8) (Nk := some 10) (impl_PolygonOk.qB 28 6291455) (impl_PolygonOk.qB 28 7340031) (impl_PolygonOk.qB 28 13631487) rfl rfl rfl rfl rfl rfl (three_of HT_.out (by kernel_rfl)) (by decide) (by decide) (by decide) (fun K hK => ?_) (fun K hK => ?_) (fun K hK => ?_)
             ·refine po_alloc HQ hK ?hr ?ha (fun g7 w47 HQ => ?_) (f := ?_); (case hr => first | (go_simp; done) | (go_simp; rfl)); (case ha => intro g_; simp only [Act.put, List.setIfInBounds_toArray, List.set_cons_zero, List.set_cons_succ]; rfl)
              refine two_ (i := 21) (j := 23) (Ni := some 8) (Nj := some 10) (impl_PolygonOk.qB 28 8388607) (impl_PolygonOk.qB 28 14680063) rfl rfl rfl rfl (two_of HT_.out (by kernel_rfl)) (by decide) (by decide) (fun K hK => ?_) (fun K hK => ?_)
              ·refine po_alloc HQ hK ?hr ?ha (fun g8 w48 HQ => ?_) (f := ?_); (case hr => first | (go_simp; done) | (go_simp; rfl)); (case ha => intro g_; simp only [Act.put, List.setIfInBounds_toArray, List.set_cons_zero, List.set_cons_succ]; rfl)
               refine one_ (i := 23) (N := some 10) (impl_PolygonOk.qB 28 16777215) rfl rfl (one_of HT_.out (by kernel_rfl)) (by decide) (fun K hK => ?_); refine po_alloc HQ hK ?hr ?ha (fun g10 w50 HQ => ?_) (f := ?_); (case hr => first | (go_simp; done) | (go_simp; rfl)); (case ha => intro g_; simp only [Act.put, List.setIfInBounds_toArray, List.set_cons_zero, List.set_cons_succ]; rfl); exact norm_ (by first | (simp only [putAll, Act.put, List.setIfInBounds_toArray, List.set_cons_zero, List.set_cons_succ]; done) | (simp only [putAll, Act.put, List.setIfInBounds_toArray, List.set_cons_zero, List.set_cons_succ]; rfl)) (hJ (g7, g8, g9, g10) _ (by have hn_ := HQ.out.nd; simp only [List.map_cons, List.map_nil, List.nodup_cons, List.mem_cons, List.not_mem_nil, or_false, not_or, List.nodup_nil, and_true, not_false_eq_true] at hn_; exact PoB.four (a := g7) (b := g8) (c := g9) (d := g10) HQ.out (by simp) ⟨by simp, by omega⟩ ⟨by simp, by omega, by omega⟩ ⟨by simp, by omega, by omega, by omega⟩))
              ·refine po_alloc HQ hK ?hr ?ha (fun g10 w50 HQ => ?_) (f := ?_); (case hr => first | (go_simp; done) | (go_simp; rfl)); (case ha => intro g_; simp only [Act.put, List.setIfInBounds_toArray, List.set_cons_zero, List.set_cons_succ]; rfl)
               refine one_ (i := 21) (N := some 8) (impl_PolygonOk.qB 28 16777215) rfl rfl (one_of HT_.out (by kernel_rfl)) (by decide) (fun K hK => ?_); refine po_alloc HQ hK ?hr ?ha (fun g8 w48 HQ => ?_) (f := ?_); (case hr => first | (go_simp; done) | (go_simp; rfl)); (case ha => intro g_; simp only [Act.put, List.setIfInBounds_toArray, List.set_cons_zero, List.set_cons_succ]; rfl); exact norm_ (by first | (simp only [putAll, Act.put, List.setIfInBounds_toArray, List.set_cons_zero, List.set_cons_succ]; done) | (simp only [putAll, Act.put, List.setIfInBounds_toArray, List.set_cons_zero, List.set_cons_succ]; rfl)) (hJ (g7, g8, g9, g10) _ (by have hn_ := HQ.out.nd; simp only [List.map_cons, List.map_nil, List.nodup_cons, List.mem_cons, List.not_mem_nil, or_false, not_or, List.nodup_nil, and_true, not_false_eq_true] at hn_; exact PoB.four (a := g7) (b := g8) (c := g9) (d := g10) HQ.out (by simp) ⟨by simp, by omega⟩ ⟨by simp, by omega, by omega⟩ ⟨by simp, by omega, by omega, by omega⟩))
             ·refine po_alloc HQ hK ?hr ?ha (fun g8 w48 HQ => ?_) (f := ?_); (case hr => first | (go_simp; done) | (go_simp; rfl)); (case ha => intro g_; simp only [Act.put, List.setIfInBounds_toArray, List.set_cons_zero, List.set_cons_succ]; rfl)
              refine two_ (i := 20) (j := 23) (Ni := some 7) (Nj := some 10) (impl_PolygonOk.qB 28 8388607) (impl_PolygonOk.qB 28 15728639) rfl rfl rfl rfl (two_of HT_.out (by kernel_rfl)) (by decide) (by decide) (fun K hK => ?_) (fun K hK => ?_)
              ·refine po_alloc HQ hK ?hr ?ha (fun g7 w47 HQ => ?_) (f := ?_); (case hr => first | (go_simp; done) | (go_simp; rfl)); (case ha => intro g_; simp only [Act.put, List.setIfInBounds_toArray, List.set_cons_zero, List.set_cons_succ]; rfl)
               refine one_ (i := 23) (N := some 10) (impl_PolygonOk.qB 28 16777215) rfl rfl (one_of HT_.out (by kernel_rfl)) (by decide) (fun K hK => ?_); refine po_alloc HQ hK ?hr ?ha (fun g10 w50 HQ => ?_) (f := ?_); (case hr => first | (go_simp; done) | (go_simp; rfl)); (case ha => intro g_; simp only [Act.put, List.setIfInBounds_toArray, List.set_cons_zero, List.set_cons_succ]; rfl); exact norm_ (by first | (simp only [putAll, Act.put, List.setIfInBounds_toArray, List.set_cons_zero, List.set_cons_succ]; done) | (simp only [putAll, Act.put, List.setIfInBounds_toArray, List.set_cons_zero, List.set_cons_succ]; rfl)) (hJ (g7, g8, g9, g10) _ (by have hn_ := HQ.out.nd; simp only [List.map_cons, List.map_nil, List.nodup_cons, List.mem_cons, List.not_mem_nil, or_false, not_or, List.nodup_nil, and_true, not_false_eq_true] at hn_; exact PoB.four (a := g7) (b := g8) (c := g9) (d := g10) HQ.out (by simp) ⟨by simp, by omega⟩ ⟨by simp, by omega, by omega⟩ ⟨by simp, by omega, by omega, by omega⟩))
              ·refine po_alloc HQ hK ?hr ?ha (fun g10 w50 HQ => ?_) (f := ?_); (case hr => first | (go_simp; done) | (go_simp; rfl)); (case ha => intro g_; simp only [Act.put, List.setIfInBounds_toArray, List.set_cons_zero, List.set_cons_succ]; rfl)
               refine one_ (i := 20) (N := some 7) (impl_PolygonOk.qB 28 16777215) rfl rfl (one_of HT_.out (by kernel_rfl)) (by decide) (fun K hK => ?_); refine po_alloc HQ hK ?hr ?ha (fun g7 w47 HQ => ?_) (f := ?_); (case hr => first | (go_simp; done) | (go_simp; rfl)); (case ha => intro g_; simp only [Act.put, List.setIfInBounds_toArray, List.set_cons_zero, List.set_cons_succ]; rfl); exact norm_ (by first | (simp only [putAll, Act.put, List.setIfInBounds_toArray, List.set_cons_zero, List.set_cons_succ]; done) | (simp only [putAll, Act.put, List.setIfInBounds_toArray, List.set_cons_zero, List.set_cons_succ]; rfl)) (hJ (g7, g8, g9, g10) _ (by have hn_ := HQ.out.nd; simp only [List.map_cons, List.map_nil, List.nodup_cons, List.mem_cons, List.not_mem_nil, or_false, not_or, List.nodup_nil, and_true, not_false_eq_true] at hn_; exact PoB.four (a := g7) (b := g8) (c := g9) (d := g10) HQ.out (by simp) ⟨by simp, by omega⟩ ⟨by simp, by omega, by omega⟩ ⟨by simp, by omega, by omega, by omega⟩))
             ·refine po_alloc HQ hK ?hr ?ha (fun g10 w50 HQ => ?_) (f := ?_); (case hr => first | (go_simp; done) | (go_simp; rfl)); (case ha => intro g_; simp only [Act.put, List.setIfInBounds_toArray, List.set_cons_zero, List.set_cons_succ]; rfl)
              refine two_ (i := 20) (j := 21) (Ni := some 7) (Nj := some 8) (impl_PolygonOk.qB 28 14680063) (impl_PolygonOk.qB 28 15728639) rfl rfl rfl rfl (two_of HT_.out (by kernel_rfl)) (by decide) (by decide) (fun K hK => ?_) (fun K hK => ?_)
              ·refine po_alloc HQ hK ?hr ?ha (fun g7 w47 HQ => ?_) (f := ?_); (case hr => first | (go_simp; done) | (go_simp; rfl)); (case ha => intro g_; simp only [Act.put, List.setIfInBounds_toArray, List.set_cons_zero, List.set_cons_succ]; rfl)
               refine one_ (i := 21) (N := some 8) (impl_PolygonOk.qB 28 16777215) rfl rfl (one_of HT_.out (by kernel_rfl)) (by decide) (fun K hK => ?_); refine po_alloc HQ hK ?hr ?ha (fun g8 w48 HQ => ?_) (f := ?_); (case hr => first | (go_simp; done) | (go_simp; rfl)); (case ha => intro g_; simp only [Act.put, List.setIfInBounds_toArray, List.set_cons_zero, List.set_cons_succ]; rfl); exact norm_ (by first | (simp only [putAll, Act.put, List.setIfInBounds_toArray, List.set_cons_zero, List.set_cons_succ]; done) | (simp only [putAll, Act.put, List.setIfInBounds_toArray, List.set_cons_zero, List.set_cons_succ]; rfl)) (hJ (g7, g8, g9, g10) _ (by have hn_ := HQ.out.nd; simp only [List.map_cons, List.map_nil, List.nodup_cons, List.mem_cons, List.not_mem_nil, or_false, not_or, List.nodup_nil, and_true, not_false_eq_true] at hn_; exact PoB.four (a := g7) (b := g8) (c := g9) (d := g10) HQ.out (by simp) ⟨by simp, by omega⟩ ⟨by simp, by omega, by omega⟩ ⟨by simp, by omega, by omega, by omega⟩))
              ·refine po_alloc HQ hK ?hr ?ha (fun g8 w48 HQ => ?_) (f := ?_); (case hr => first | (go_simp; done) | (go_simp; rfl)); (case ha => intro g_; simp only [Act.put, List.setIfInBounds_toArray, List.set_cons_zero, List.set_cons_succ]; rfl)
               refine one_ (i := 20) (N := some 7) (impl_PolygonOk.qB 28 16777215) rfl rfl (one_of HT_.out (by kernel_rfl)) (by decide) (fun K hK => ?_); refine po_alloc HQ hK ?hr ?ha (fun g7 w47 HQ => ?_) (f := ?_); (case hr => first | (go_simp; done) | (go_simp; rfl)); (case ha => intro g_; simp only [Act.put, List.setIfInBounds_toArray, List.set_cons_zero, List.set_cons_succ]; rfl); exact norm_ (by first | (simp only [putAll, Act.put, List.setIfInBounds_toArray, List.set_cons_zero, List.set_cons_succ]; done) | (simp only [putAll, Act.put, List.setIfInBounds_toArray, List.set_cons_zero, List.set_cons_succ]; rfl)) (hJ (g7, g8, g9, g10) _ (by have hn_ := HQ.out.nd; simp only [List.map_cons, List.map_nil, List.nodup_cons, List.mem_cons, List.not_mem_nil, or_false, not_or, List.nodup_nil, and_true, not_false_eq_true] at hn_; exact PoB.four (a := g7) (b := g8) (c := g9) (d := g10) HQ.out (by simp) ⟨by simp, by omega⟩ ⟨by simp, by omega, by omega⟩ ⟨by simp, by omega, by omega, by omega⟩))
            ·refine po_alloc HQ hK ?hr ?ha (fun g10 w50 HQ => ?_) (f := ?_); (case hr => first | (go_simp; done) | (go_simp; rfl)); (case ha => intro g_; simp only [Act.put, List.setIfInBounds_toArray, List.set_cons_zero, List.set_cons_succ]; rfl)
             refine three_ (i := 20) (j := 21) (k := 22) (Ni := some 7) (Nj := some 8) (Nk := some 9) (impl_PolygonOk.qB 28 10485759) (impl_PolygonOk.qB 28 11534335) (impl_PolygonOk.qB 28 13631487) rfl rfl rfl rfl rfl rfl (three_of HT_.out (by kernel_rfl)) (by decide) (by decide) (by decide) (fun K hK => ?_) (fun K hK => ?_) (fun K hK => ?_)
             ·refine po_alloc HQ hK ?hr ?ha (fun g7 w47 HQ => ?_) (f := ?_); (case hr => first | (go_simp; done) | (go_simp; rfl)); (case ha => intro g_; simp only [Act.put, List.setIfInBounds_toArray, List.set_cons_zero, List.set_cons_succ]; rfl)
              refine two_ (i := 21) (j := 22) (Ni := some 8) (Nj := some 9) (impl_PolygonOk.qB 28 12582911) (impl_PolygonOk.qB 28 14680063) rfl rfl rfl rfl (two_of HT_.out (by kernel_rfl)) (by decide) (by decide) (fun K hK => ?_) (fun K hK => ?_)
              ·refine po_alloc HQ hK ?hr ?ha (fun g8 w48 HQ => ?_) (f := ?_); (case hr => first | (go_simp; done) | (go_simp; rfl)); (case ha => intro g_; simp only [Act.put, List.setIfInBounds_toArray, List.set_cons_zero, List.set_cons_succ]; rfl)
               refine one_ (i := 22) (N := some 9) (impl_PolygonOk.qB 28 16777215) rfl rfl (one_of HT_.out (by kernel_rfl)) (by decide) (fun K hK => ?_); refine po_alloc HQ hK ?hr ?ha (fun g9 w49 HQ => ?_) (f := ?_); (case hr => first | (go_simp; done) | (go_simp; rfl)); (case ha => intro g_; simp only [Act.put, List.setIfInBounds_toArray, List.set_cons_zero, List.set_cons_succ]; rfl); exact norm_ (by first | (simp only [putAll, Act.put, List.setIfInBounds_toArray, List.set_cons_zero, List.set_cons_succ]; done) | (simp only [putAll, Act.put, List.setIfInBounds_toArray, List.set_cons_zero, List.set_cons_succ]; rfl)) (hJ (g7, g8, g9, g10) _ (by have hn_ := HQ.out.nd; simp only [List.map_cons, List.map_nil, List.nodup_cons, List.mem_cons, List.not_mem_nil, or_false, not_or, List.nodup_nil, and_true, not_false_eq_true] at hn_; exact PoB.four (a := g7) (b := g8) (c := g9) (d := g10) HQ.out (by simp) ⟨by simp, by omega⟩ ⟨by simp, by omega, by omega⟩ ⟨by simp, by omega, by omega, by omega⟩))
              ·refine po_alloc HQ hK ?hr ?ha (fun g9 w49 HQ => ?_) (f := ?_); (case hr => first | (go_simp; done) | (go_simp; rfl)); (case ha => intro g_; simp only [Act.put, List.setIfInBounds_toArray, List.set_cons_zero, List.set_cons_succ]; rfl)
               refine one_ (i := 21) (N := some 8) (impl_PolygonOk.qB 28 16777215) rfl rfl (one_of HT_.out (by kernel_rfl)) (by decide) (fun K hK => ?_); refine po_alloc HQ hK ?hr ?ha (fun g8 w48 HQ => ?_) (f := ?_); (case hr => first | (go_simp; done) | (go_simp; rfl)); (case ha => intro g_; simp only [Act.put, List.setIfInBounds_toArray, List.set_cons_zero, List.set_cons_succ]; rfl); exact norm_ (by first | (simp only [putAll, Act.put, List.setIfInBounds_toArray, List.set_cons_zero, List.set_cons_succ]; done) | (simp only [putAll, Act.put, List.setIfInBounds_toArray, List.set_cons_zero, List.set_cons_succ]; rfl)) (hJ (g7, g8, g9, g10) _ (by have hn_ := HQ.out.nd; simp only [List.map_cons, List.map_nil, List.nodup_cons, List.mem_cons, List.not_mem_nil, or_false, not_or, List.nodup_nil, and_true, not_false_eq_true] at hn_; exact PoB.four (a := g7) (b := g8) (c := g9) (d := g10) HQ.out (by simp) ⟨by simp, by omega⟩ ⟨by simp, by omega, by omega⟩ ⟨by simp, by omega, by omega, by omega⟩))
             ·refine po_alloc HQ hK ?hr ?ha (fun g8 w48 HQ => ?_) (f := ?_); (case hr => first | (go_simp; done) | (go_simp; rfl)); (case ha => intro g_; simp only [Act.put, List.setIfInBounds_toArray, List.set_cons_zero, List.set_cons_succ]; rfl)
              refine two_ (i := 20) (j := 22) (Ni := some 7) (Nj := some 9) (impl_PolygonOk.qB 28 12582911) (impl_PolygonOk.qB 28 15728639) rfl rfl rfl rfl (two_of HT_.out (by kernel_rfl)) (by decide) (by decide) (fun K hK => ?_) (fun K hK => ?_)
              ·refine po_alloc HQ hK ?hr ?ha (fun g7 w47 HQ => ?_) (f := ?_); (case hr => first | (go_simp; done) | (go_simp; rfl)); (case ha => intro g_; simp only [Act.put, List.setIfInBounds_toArray, List.set_cons_zero, List.set_cons_succ]; rfl)
               refine one_ (i := 22) (N := some 9) (impl_PolygonOk.qB 28 16777215) rfl rfl (one_of HT_.out (by kernel_rfl)) (by decide) (fun K hK => ?_); refine po_alloc HQ hK ?hr ?ha (fun g9 w49 HQ => ?_) (f := ?_); (case hr => first | (go_simp; done) | (go_simp; rfl)); (case ha => intro g_; simp only [Act.put, List.setIfInBounds_toArray, List.set_cons_zero, List.set_cons_succ]; rfl); exact norm_ (by first | (simp only [putAll, Act.put, List.setIfInBounds_toArray, List.set_cons_zero, List.set_cons_succ]; done) | (simp only [putAll, Act.put, List.setIfInBounds_toArray, List.set_cons_zero, List.set_cons_succ]; rfl)) (hJ (g7, g8, g9, g10) _ (by have hn_ := HQ.out.nd; simp only [List.map_cons, List.map_nil, List.nodup_cons, List.mem_cons, List.not_mem_nil, or_false, not_or, List.nodup_nil, and_true, not_false_eq_true] at hn_; exact PoB.four (a := g7) (b := g8) (c := g9) (d := g10) HQ.out (by simp) ⟨by simp, by omega⟩ ⟨by simp, by omega, by omega⟩ ⟨by simp, by omega, by omega, by omega⟩))
              ·refine po_alloc HQ hK ?hr ?ha (fun g9 w49 HQ => ?_) (f := ?_); (case hr => first | (go_simp; done) | (go_simp; rfl)); (case ha => intro g_; simp only [Act.put, List.setIfInBounds_toArray, List.set_cons_zero, List.set_cons_succ]; rfl)
               refine one_ (i := 20) (N := some 7) (impl_PolygonOk.qB 28 16777215) rfl rfl (one_of HT_.out (by kernel_rfl)) (by decide) (fun K hK => ?_); refine po_alloc HQ hK ?hr ?ha (fun g7 w47 HQ => ?_) (f := ?_); (case hr => first | (go_simp; done) | (go_simp; rfl)); (case ha => intro g_; simp only [Act.put, List.setIfInBounds_toArray, List.set_cons_zero, List.set_cons_succ]; rfl); exact norm_ (by first | (simp only [putAll, Act.put, List.setIfInBounds_toArray, List.set_cons_zero, List.set_cons_succ]; done) | (simp only [putAll, Act.put, List.setIfInBounds_toArray, List.set_cons_zero, List.set_cons_succ]; rfl)) (hJ (g7, g8, g9, g10) _ (by have hn_ := HQ.out.nd; simp only [List.map_cons, List.map_nil, List.nodup_cons, List.mem_cons, List.not_mem_nil, or_false, not_or, List.nodup_nil, and_true, not_false_eq_true] at hn_; exact PoB.four (a := g7) (b := g8) (c := g9) (d := g10) HQ.out (by simp) ⟨by simp, by omega⟩ ⟨by simp, by omega, by omega⟩ ⟨by simp, by omega, by omega, by omega⟩))
             ·refine po_alloc HQ hK ?hr ?ha (fun g9 w49 HQ => ?_) (f := ?_); (case hr => first | (go_simp; done) | (go_simp; rfl)); (case ha => intro g_; simp only [Act.put, List.setIfInBounds_toArray, List.set_cons_zero, List.set_cons_succ]; rfl)
              refine two_ (i := 20) (j := 21) (Ni := some 7) (Nj := some 8) (impl_PolygonOk.qB 28 14680063) (impl_PolygonOk.qB 28 15728639) rfl rfl rfl rfl (two_of HT_.out (by kernel_rfl)) (by decide) (by decide) (fun K hK => ?_) (fun K hK => ?_)
              ·refine po_alloc HQ hK ?hr ?ha (fun g7 w47 HQ => ?_) (f := ?_); (case hr => first | (go_simp; done) | (go_simp; rfl)); (case ha => intro g_; simp only [Act.put, List.setIfInBounds_toArray, List.set_cons_zero, List.set_cons_succ]; rfl)
               refine one_ (i := 21) (N := some 8) (impl_PolygonOk.qB 28 16777215) rfl rfl (one_of HT_.out (by kernel_rfl)) (by decide) (fun K hK => ?_); refine po_alloc HQ hK ?hr ?ha (fun g8 w48 HQ => ?_) (f := ?_); (case hr => first | (go_simp; done) | (go_simp; rfl)); (case ha => intro g_; simp only [Act.put, List.setIfInBounds_toArray, List.set_cons_zero, List.set_cons_succ]; rfl); exact norm_ (by first | (simp only [putAll, Act.put, List.setIfInBounds_toArray, List.set_cons_zero, List.set_cons_succ]; done) | (simp only [putAll, Act.put, List.setIfInBounds_toArray, List.set_cons_zero, List.set_cons_succ]; rfl)) (hJ (g7, g8, g9, g10) _ (by have hn_ := HQ.out.nd; simp only [List.map_cons, List.map_nil, List.nodup_cons, List.mem_cons, List.not_mem_nil, or_false, not_or, List.nodup_nil, and_true, not_false_eq_true] at hn_; exact PoB.four (a := g7) (b := g8) (c := g9) (d := g10) HQ.out (by simp) ⟨by simp, by omega⟩ ⟨by simp, by omega, by omega⟩ ⟨by simp, by omega, by omega, by omega⟩))
              ·refine po_alloc HQ hK ?hr ?ha (fun g8 w48 HQ => ?_) (f := ?_); (case hr => first | (go_simp; done) | (go_simp; rfl)); (case ha => intro g_; simp only [Act.put, List.setIfInBounds_toArray, List.set_cons_zero, List.set_cons_succ]; rfl)
               refine one_ (i := 20) (N := some 7) (impl_PolygonOk.qB 28 16777215) rfl rfl (one_of HT_.out (by kernel_rfl)) (by decide) (fun K hK => ?_); refine po_alloc HQ hK ?hr ?ha (fun g7 w47 HQ => ?_) (f := ?_); (case hr => first | (go_simp; done) | (go_simp; rfl)); (case ha => intro g_; simp only [Act.put, List.setIfInBounds_toArray, List.set_cons_zero, List.set_cons_succ]; rfl); exact norm_ (by first | (simp only [putAll, Act.put, List.setIfInBounds_toArray, List.set_cons_zero, List.set_cons_succ]; done) | (simp only [putAll, Act.put, List.setIfInBounds_toArray, List.set_cons_zero, List.set_cons_succ]; rfl)) (hJ (g7, g8, g9, g10) _ (by have hn_ := HQ.out.nd; simp only [List.map_cons, List.map_nil, List.nodup_cons, List.mem_cons, List.not_mem_nil, or_false, not_or, List.nodup_nil, and_true, not_false_eq_true] at hn_; exact PoB.four (a := g7) (b := g8) (c := g9) (d := g10) HQ.out (by simp) ⟨by simp, by omega⟩ ⟨by simp, by omega, by omega⟩ ⟨by simp, by omega, by omega, by omega⟩))
           rintro ⟨g7, g8, g9, g10⟩ w5 hq
           have HQ := Aside0.mk hq; clear hq hHeld; refine norm_ (a' := ?_) ?_ ?_; rotate_left
           ·simp only [putAll, Act.put, List.setIfInBounds_toArray, List.set_cons_zero, List.set_cons_succ]
            rfl
           refine one_ (i := 24) (N := none) (impl_PolygonOk.qB 28 33554431) rfl rfl (one_of HT_.out (by kernel_rfl)) (by decide) (fun K hK => ?_); obtain ⟨hz0, hz1, hf0, hf1⟩ := HQ.out.cellz (g := g7) (by simp); refine skip_ (w1 := ?_) (by rfl) rfl ?_ ?_; rotate_left
           ·go_simp
            rfl
           have HQ2 := Aside0.mk (PoB.store (A := []) (B := [(g8, ptZ), (g9, ptZ), (g10, ptZ)]) pa HQ.out); refine hK.out _ _ HQ2.out.below (fun hHeld => ?_); clear hK K HQ hz0 hz1 hf0 hf1; have HQ := HQ2; clear HQ2; simp only [List.nil_append, List.cons_append] at HQ; generalize ((w5.setCell ⟨g7, 0, none⟩ (.int .i64 pa.f0)).setCell ⟨g7, 1, none⟩ (.int .i64 pa.f1)) = w60 at HQ hHeld ⊢; skip
           refine one_ (i := 25) (N := none) (impl_PolygonOk.qB 28 67108863) rfl rfl (one_of HT_.out (by kernel_rfl)) (by decide) (fun K hK => ?_); obtain ⟨hz0, hz1, hf0, hf1⟩ := HQ.out.cellz (g := g8) (by simp); refine skip_ (w1 := ?_) (by rfl) rfl ?_ ?_; rotate_left
           ·go_simp
            rfl
           have HQ2 := Aside0.mk (PoB.store (A := [(g7, ptObj pa)]) (B := [(g9, ptZ), (g10, ptZ)]) pb HQ.out); refine hK.out _ _ HQ2.out.below (fun hHeld => ?_); clear hK K HQ hz0 hz1 hf0 hf1; have HQ := HQ2; clear HQ2; simp only [List.nil_append, List.cons_append] at HQ; generalize ((w60.setCell ⟨g8, 0, none⟩ (.int .i64 pb.f0)).setCell ⟨g8, 1, none⟩ (.int .i64 pb.f1)) = w61 at HQ hHeld ⊢; skip
           refine one_ (i := 26) (N := none) (impl_PolygonOk.qB 28 134217727) rfl rfl (one_of HT_.out (by kernel_rfl)) (by decide) (fun K hK => ?_); obtain ⟨hz0, hz1, hf0, hf1⟩ := HQ.out.cellz (g := g9) (by simp); refine skip_ (w1 := ?_) (by rfl) rfl ?_ ?_; rotate_left
           ·go_simp
            rfl
           have HQ2 := Aside0.mk (PoB.store (A := [(g7, ptObj pa), (g8, ptObj pb)]) (B := [(g10, ptZ)]) pc HQ.out); refine hK.out _ _ HQ2.out.below (fun hHeld => ?_); clear hK K HQ hz0 hz1 hf0 hf1; have HQ := HQ2; clear HQ2; simp only [List.nil_append, List.cons_append] at HQ; generalize ((w61.setCell ⟨g9, 0, none⟩ (.int .i64 pc.f0)).setCell ⟨g9, 1, none⟩ (.int .i64 pc.f1)) = w62 at HQ hHeld ⊢; skip
           refine one_ (i := 27) (N := none) (impl_PolygonOk.qB 28 268435455) rfl rfl (one_of HT_.out (by kernel_rfl)) (by decide) (fun K hK => ?_); obtain ⟨hz0, hz1, hf0, hf1⟩ := HQ.out.cellz (g := g10) (by simp); refine skip_ (w1 := ?_) (by rfl) rfl ?_ ?_; rotate_left
           ·go_simp
            rfl
           have HQ2 := Aside0.mk (PoB.store (A := [(g7, ptObj pa), (g8, ptObj pb), (g9, ptObj pc)]) (B := []) pd HQ.out); refine hK.out _ _ HQ2.out.below (fun hHeld => ?_); clear hK K HQ hz0 hz1 hf0 hf1; have HQ := HQ2; clear HQ2; simp only [List.nil_append, List.cons_append] at HQ; generalize ((w62.setCell ⟨g10, 0, none⟩ (.int .i64 pd.f0)).setCell ⟨g10, 1, none⟩ (.int .i64 pd.f1)) = w63 at HQ hHeld ⊢; skip
           refine done_ (done_of HT_.out (by kernel_rfl)) ?_; clear hHeld ha0 ha1 hb0 hb1 hc0 hc1 hd0 hd1; go_wp2; go_meet
           case rel => exact ⟨g7, g8, g9, g10, rfl, rfl, rfl, rfl, HQ⟩
          case rest =>
           clear HB ha0 ha1 hb0 hb1 hc0 hc1 hd0 hd1 c8b c8c c8d c8e c9b c9c c9d c9e d1 d2 d3 d4; obtain ⟨g7, g8, g9, g10, rfl, rfl, rfl, rfl, HQ⟩ := hcut; obtain ⟨hx0, hx1⟩ := mt_box (HQ.out.ge (g7, ptObj pa) (by simp)).2; obtain ⟨hy0, hy1⟩ := mt_box (HQ.out.ge (g8, ptObj pb) (by simp)).2; obtain ⟨hz0, hz1⟩ := mt_box (HQ.out.ge (g9, ptObj pc) (by simp)).2; obtain ⟨hu_0, hu_1⟩ := mt_box (HQ.out.ge (g10, ptObj pd) (by simp)).2; have HBQ := Aside0.mk HQ.out.below; clear HQ hj1w hj1 hj2 E1 E2 c21b0 c21b1 c21b2; go_upto_region 14 with (fail)
           go_cut [85] (fun v85 we => v85 = .bool (!pok) ∧ Aside0 (Below w.heap.size w we))
           case first =>
            obtain ⟨x0, x1⟩ := pa; obtain ⟨y0, y1⟩ := pb; obtain ⟨z0, z1⟩ := pc; obtain ⟨u0, u1⟩ := pd; simp only at hx0 hx1 hy0 hy1 hz0 hz1 hu_0 hu_1; have hp := HP.out; clear HP; by_cases e1 : x0 = y0
            ·subst e1
             by_cases e2 : x1 = y1
             ·subst e2
              rw [if_pos (by simp [eqPt])] at hp; obtain rfl := Option.some.inj hp; clear hp; go_wp2; go_meet
              case rel => exact ⟨rfl, HBQ⟩
             ·have e2n : (x1 = y1) = False := eq_false e2
              have e2b : (x1 == y1) = false := beq_eq_false_iff_ne.mpr e2; rw [if_neg (by simp [eqPt, e2b])] at hp; clear e2; by_cases f1 : z0 = u0
              ·subst f1
               by_cases f2 : z1 = u1
               ·subst f2
                rw [if_pos (by simp [eqPt])] at hp; obtain rfl := Option.some.inj hp; clear hp; go_wp2; go_meet
                case rel => exact ⟨rfl, HBQ⟩
               ·have f2n : (z1 = u1) = False := eq_false f2
                have f2b : (z1 == u1) = false := beq_eq_false_iff_ne.mpr f2; rw [if_neg (by simp [eqPt, f2b])] at hp; clear f2; obtain ⟨mm, hm, hp⟩ := Option.bind_eq_some_iff.mp hp; have hp := Option.some.inj hp; rw [HWT.out] at hp; have HM := Aside0.mk hm; have HPE := Aside0.mk (show (!pok) = (mm != wt) by rw [← hp]; rfl); clear hm hp; go_wp2_with (first | (go_at_call 70; refine (impl_meet.calls _ _ _ _ _ _ _ _ mm _ HM.out).mono ?_; rintro e w9 ⟨rfl, hb⟩; have HB9 := Aside0.mk (below_step HBQ.out hb); clear hb)); go_meet
                case rel => exact ⟨by rw [HPE.out], HB9⟩
              ·have f1n : (z0 = u0) = False := eq_false f1
               have f1b : (z0 == u0) = false := beq_eq_false_iff_ne.mpr f1; rw [if_neg (by simp [eqPt, f1b])] at hp; clear f1; obtain ⟨mm, hm, hp⟩ := Option.bind_eq_some_iff.mp hp; have hp := Option.some.inj hp; rw [HWT.out] at hp; have HM := Aside0.mk hm; have HPE := Aside0.mk (show (!pok) = (mm != wt) by rw [← hp]; rfl); clear hm hp; go_wp2_with (first | (go_at_call 70; refine (impl_meet.calls _ _ _ _ _ _ _ _ mm _ HM.out).mono ?_; rintro e w9 ⟨rfl, hb⟩; have HB9 := Aside0.mk (below_step HBQ.out hb); clear hb)); go_meet
               case rel => exact ⟨by rw [HPE.out], HB9⟩
            ·have e1n : (x0 = y0) = False := eq_false e1
             have e1b : (x0 == y0) = false := beq_eq_false_iff_ne.mpr e1; rw [if_neg (by simp [eqPt, e1b])] at hp; clear e1; by_cases f1 : z0 = u0
             ·subst f1
              by_cases f2 : z1 = u1
              ·subst f2
               rw [if_pos (by simp [eqPt])] at hp; obtain rfl := Option.some.inj hp; clear hp; go_wp2; go_meet
               case rel => exact ⟨rfl, HBQ⟩
              ·have f2n : (z1 = u1) = False := eq_false f2
               have f2b : (z1 == u1) = false := beq_eq_false_iff_ne.mpr f2; rw [if_neg (by simp [eqPt, f2b])] at hp; clear f2; obtain ⟨mm, hm, hp⟩ := Option.bind_eq_some_iff.mp hp; have hp := Option.some.inj hp; rw [HWT.out] at hp; have HM := Aside0.mk hm; have HPE := Aside0.mk (show (!pok) = (mm != wt) by rw [← hp]; rfl); clear hm hp; go_wp2_with (first | (go_at_call 70; refine (impl_meet.calls _ _ _ _ _ _ _ _ mm _ HM.out).mono ?_; rintro e w9 ⟨rfl, hb⟩; have HB9 := Aside0.mk (below_step HBQ.out hb); clear hb)); go_meet
               case rel => exact ⟨by rw [HPE.out], HB9⟩
             ·have f1n : (z0 = u0) = False := eq_false f1
              have f1b : (z0 == u0) = false := beq_eq_false_iff_ne.mpr f1; rw [if_neg (by simp [eqPt, f1b])] at hp; clear f1; obtain ⟨mm, hm, hp⟩ := Option.bind_eq_some_iff.mp hp; have hp := Option.some.inj hp; rw [HWT.out] at hp; have HM := Aside0.mk hm; have HPE := Aside0.mk (show (!pok) = (mm != wt) by rw [← hp]; rfl); clear hm hp; go_wp2_with (first | (go_at_call 70; refine (impl_meet.calls _ _ _ _ _ _ _ _ mm _ HM.out).mono ?_; rintro e w9 ⟨rfl, hb⟩; have HB9 := Aside0.mk (below_step HBQ.out hb); clear hb)); go_meet
              case rel => exact ⟨by rw [HPE.out], HB9⟩
           case rest =>
            clear HP HWT HBQ hx0 hx1 hy0 hy1 hz0 hz1 hu_0 hu_1; obtain ⟨rfl, HB⟩ := hcut; cases pok with
            | true =>
             have HP2 := Aside0.mk (show poInner l0 i m2 (k + 1) = some bi from HREST2.out); go_wp2; go_roundg m2
             case measure => omega
             case rel => exact ⟨k + 1, by rw [show wrap64 ((k : Int) + 1) = ((k + 1 : Nat) : Int) from WK.out], ⟨by have := HK2.out; omega, by have := HK2.out; omega⟩, HP2, HB⟩
            | false =>
             obtain rfl := Option.some.inj (show some false = some bi from HREST2.out); obtain rfl := Option.some.inj (show some false = some r from HREST.out); go_wp2; go_ret
             exact ⟨rfl, HB.out⟩

/-! ### impl_size: function 48 -/
def impl_size.f (a0 : Int) : Option (Int) := some (mx a0 (wrap64 (-a0)))
set_option maxHeartbeats 8000000 in
set_option maxRecDepth 100000 in
theorem impl_size.calls (a0 : Int) (r : Int) (w : World) (h : impl_size.f a0 = some r) :
  Calls Try.prog 48 #[.int .i64 a0] w fun e w' => e = .returned (.int .i64 r) ∧ Below w.heap.size w w' := by
 have HB := Aside0.mk (Below.refl w.heap.size w)
 have H : (some (mx a0 (wrap64 (-a0)))) = some r := h
 clear h
 obtain ⟨ji2, hji2⟩ : ∃ j_ : Int, (mx a0 (wrap64 (-a0))) = j_ := ⟨_, rfl⟩
 replace H : (some ji2) = some r := by first | (rw [hji2] at H; exact H) | (simp only [hji2] at H ⊢; exact H)
 have hji2_ : (if a0 < (wrap64 (-a0)) then (wrap64 (-a0)) else a0) = ji2 := hji2
 obtain rfl := Option.some.inj H
 go_enter Try.func48, Try.ntmps48
 go_wp2
 go_ret
 exact ⟨by first | rfl | (simp [errW_none, errW_some] <;> rfl) | (simp only [← hji2]; first | rfl | (simp [errW_none, errW_some] <;> rfl)) | (simp [*, errW_none, errW_some] <;> rfl), by with_reducible repeat (first | exact HB.out | apply below_alloc | apply pw_below_drewN | apply below_drew1)⟩

/-! ### impl_twice: function 74 -/
def impl_twice.l0 : Nat → List (S25) → Int → List (S25) → Int → Int → Option (Int)
 | 0, _, _, _, _, _ => none
 | k + 1, x0, x3, x7, x8, x9 => if x9 < x8 then (if 0 ≤ x9 then (if x9 < (x7.length : Int) then (if (x0.length : Int) = 0 then (none) else (if 0 ≤ (Int.tmod (wrap64 (x9 + 1)) (x0.length : Int)) then (if (Int.tmod (wrap64 (x9 + 1)) (x0.length : Int)) < (x0.length : Int) then (impl_twice.l0 k x0 (wrap64 (x3 + (wrap64 ((wrap64 (((rd_T25 x7 x9).f0) * ((rd_T25 x0 (Int.tmod (wrap64 (x9 + 1)) (x0.length : Int))).f1))) - (wrap64 (((rd_T25 x7 x9).f1) * ((rd_T25 x0 (Int.tmod (wrap64 (x9 + 1)) (x0.length : Int))).f0))))))) x7 x8 (wrap64 (x9 + 1))) else (none)) else (none))) else (none)) else (none)) else (some x3)
def impl_twice.f (k : Nat) (l0 : List (S25)) : Option (Int) := impl_twice.l0 k l0 0 l0 (l0.length : Int) 0
theorem impl_twice.mono_l : ∀ k, (∀ y0 y1 y2 y3 y4, LeO (impl_twice.l0 k y0 y1 y2 y3 y4) (impl_twice.l0 (k + 1) y0 y1 y2 y3 y4))
 | 0 => fun _ _ _ _ _ r h => by simp [impl_twice.l0] at h
 | k + 1 => by
  have ih0 := impl_twice.mono_l k
  ·intro y0 y1 y2 y3 y4
   unfold impl_twice.l0
   repeat' first
   | (with_reducible exact ih0 _ _ _ _ _)
   | (with_reducible exact LeO.refl _)
   | (with_reducible exact LeO.none _)
   | (with_reducible refine LeO.ite ?_ ?_)
   | (with_reducible refine LeO.bind ?_ (fun _ => ?_))
   | exact ih0 _ _ _ _ _
   | exact LeO.none _
   | refine LeO.ite ?_ ?_
   | refine LeO.bind ?_ (fun _ => ?_)
theorem impl_twice.mono : ∀ a0 k, LeO (impl_twice.f k a0) (impl_twice.f (k + 1) a0) := by
 intro a0 k
 have ih0 := impl_twice.mono_l k
 unfold impl_twice.f
 repeat' first
  | (with_reducible exact ih0 _ _ _ _ _)
  | (with_reducible exact LeO.refl _)
  | (with_reducible exact LeO.none _)
  | (with_reducible refine LeO.ite ?_ ?_)
  | (with_reducible refine LeO.bind ?_ (fun _ => ?_))
  | exact ih0 _ _ _ _ _
  | exact LeO.none _
  | refine LeO.ite ?_ ?_
  | refine LeO.bind ?_ (fun _ => ?_)
set_option maxHeartbeats 8000000 in
set_option maxRecDepth 100000 in
theorem impl_twice.calls (k : Nat) (A0 : Option Addr) (c0 : Nat) (l0 : List (S25)) (r : Int) (w : World) (hr0 : Kd.C k25 w A0 l0.length l0) (hc0 : l0.length ≤ c0) (h : impl_twice.f k l0 = some r) :
  Calls Try.prog 74 #[.slice A0 l0.length c0] w fun e w' => e = .returned (.int .i64 r) ∧ Below w.heap.size w w' := by
 have hu25 := Try.underlying25
 have HR0 := Aside0.mk hr0
 have HC0 := Aside0.mk hc0
 clear hr0 hc0
 have HB := Aside0.mk (Below.refl w.heap.size w)
 have H : (impl_twice.l0 k l0 0 l0 (l0.length : Int) 0) = some r := h
 clear h
 have H' := Aside0.mk H
 clear H
 go_enter Try.func74, Try.ntmps74
 go_wp2
 go_loopg [3, 9] k (fun kq v3 v9 w' => ∃ (x3_1 : Int) (x9_1 : Int), v3 = .int .i64 x3_1 ∧ v9 = .int .i64 x9_1 ∧ Aside0 (impl_twice.l0 kq l0 x3_1 l0 (l0.length : Int) x9_1 = some r) ∧ Aside0 (kq ≤ k) ∧ Aside0 (Below w.heap.size w w'))
 case atStart => exact ⟨(0), (0), rfl, rfl, H', ⟨Nat.le_refl _⟩, ⟨by with_reducible repeat (first | exact HB.out | apply below_alloc | apply pw_below_drewN | apply below_drew1)⟩⟩
 case round =>
  clear H'; obtain ⟨x3_1, x9_1, rfl, rfl, HA, HK1, HB⟩ := hrel; cases gk with
  | zero => exact absurd HA.out (by simp [impl_twice.l0])
  | succ k1 =>
   have H := HA.out; clear HA; simp only [impl_twice.l0] at H; by_cases c2 : x9_1 < (l0.length : Int)
   ·rw [if_pos c2] at H
    have c2b0 : decide (x9_1 < (l0.length : Int)) = true := decide_eq_true c2; clear c2; by_cases c3 : 0 ≤ x9_1
    ·rw [if_pos c3] at H
     have c3b0 : decide (0 ≤ x9_1) = true := decide_eq_true c3; clear c3; by_cases c4 : x9_1 < (l0.length : Int)
     ·rw [if_pos c4] at H
      have c4b0 : decide (x9_1 < (l0.length : Int)) = true := decide_eq_true c4; clear c4; by_cases c5 : (l0.length : Int) = 0
      ·rw [if_pos c5] at H
       exact absurd H (by simp)
      ·rw [if_neg c5] at H
       have c5b0 : ((l0.length : Int) == 0) = false := beq_eq_false_iff_ne.mpr c5; have c5b1 : ((l0.length : Int) != 0) = true := bne_iff_ne.mpr c5; have c5b2 : ¬ (l0 = []) := fun h_ => c5 (by rw [h_]; rfl)
       obtain ⟨ji6, hji6⟩ : ∃ j_ : Int, (Int.tmod (wrap64 (x9_1 + 1)) (l0.length : Int)) = j_ := ⟨_, rfl⟩; replace H : (if 0 ≤ (ji6) then (if (ji6) < (l0.length : Int) then (impl_twice.l0 k1 l0 (wrap64 (x3_1 + (wrap64 ((wrap64 (((rd_T25 l0 x9_1).f0) * ((rd_T25 l0 (ji6)).f1))) - (wrap64 (((rd_T25 l0 x9_1).f1) * ((rd_T25 l0 (ji6)).f0))))))) l0 (l0.length : Int) (wrap64 (x9_1 + 1))) else (none)) else (none)) = some r := by first | (rw [hji6] at H; exact H) | (simp only [hji6] at H ⊢; exact H)
       by_cases c7 : 0 ≤ (ji6)
       ·rw [if_pos c7] at H
        have c7b0 : decide (0 ≤ (ji6)) = true := decide_eq_true c7; clear c7; by_cases c8 : (ji6) < (l0.length : Int)
        ·rw [if_pos c8] at H
         have c8b0 : decide ((ji6) < (l0.length : Int)) = true := decide_eq_true c8; clear c8; have H' := Aside0.mk H; clear H; have p138 : 0 ≤ (x9_1 : Int) := of_decide_eq_true (by first | (with_reducible assumption) | assumption); have q138 : x9_1 < (l0.length : Int) := of_decide_eq_true (by first | (with_reducible assumption) | assumption); obtain ⟨ad138, e138, hx138_0, hx138_1⟩ := at_T25 HR0.out x9_1 p138 q138; cases e138; (try replace hx138_0 := (HB.out.cell (World.block_lt_of_cell? w _ hx138_0)).trans hx138_0); (try replace hx138_1 := (HB.out.cell (World.block_lt_of_cell? w _ hx138_1)).trans hx138_1); replace p138 := eq_true p138; replace q138 := eq_true q138; go_wp2_with (first | ((with_reducible refine gate_dst (N := 5) rfl ?_); refine box_event ?hg (N := 5) ?hd (cs := #[.int .i64 0, .int .i64 0]) (t := 25) ?hr ?_; (case hd => rfl); (case hg => rfl); (case hr => first | (go_simp; done) | (go_simp; rfl)); intro gb139 hg w9 hbox hb; have n0_ := Aside0.mk (below_step (by repeat (first | (with_reducible first | exact HB.out | apply below_alloc | apply pw_below_drewN | apply below_drew1) | exact HB.out)) hb); have n1_ := Aside0.mk (hbox); have n2_ := Aside0.mk ((by rw [hg]; exact (below_size (by repeat (first | (with_reducible first | exact HB.out | apply below_alloc | apply pw_below_drewN | apply below_drew1) | exact HB.out))) : w.heap.size ≤ gb139)); have n3_ := Aside0.mk ((by rw [hg]; exact (below_size (by repeat (first | (with_reducible first | exact HB.out | apply below_alloc | apply pw_below_drewN | apply below_drew1) | exact HB.out))) : w.heap.size ≤ gb139)); clear HB; have HB := n0_; have BK139 := n1_; have GW139 := n2_; have GE139 := n3_; clear n0_ n1_ n2_ n3_; clear hb hbox hg; have hcz10_0 : w9.cell? ⟨gb139, 0, none⟩ = some (.int .i64 0) := (blk_cell BK139.out 0).trans rfl; have hcz10_1 : w9.cell? ⟨gb139, 1, none⟩ = some (.int .i64 0) := (blk_cell BK139.out 1).trans rfl; have hfz10_0 := blk_frozen BK139.out 0; have hfz10_1 := blk_frozen BK139.out 1; have p140 : 0 ≤ ((ji6) : Int) := of_decide_eq_true (by first | (with_reducible assumption) | assumption); have q140 : (ji6) < (l0.length : Int) := of_decide_eq_true (by first | (with_reducible assumption) | assumption); obtain ⟨ad140, e140, hx140_0, hx140_1⟩ := at_T25 HR0.out (ji6) p140 q140; obtain rfl : ad138 = ad140 := (by injection e140); have hn140_0 : ad138.block ≠ gb139 := Nat.ne_of_lt (Nat.lt_of_lt_of_le (by have := World.block_lt_of_cell? _ _ hx140_0; first | rwa [add_block] at this | exact this) GW139.out); have hn140_1 : ad138.block ≠ gb139 := Nat.ne_of_lt (Nat.lt_of_lt_of_le (by have := World.block_lt_of_cell? _ _ hx140_0; first | rwa [add_block] at this | exact this) GW139.out); replace hx140_0 := (HB.out.cell (World.block_lt_of_cell? w _ hx140_0)).trans hx140_0; replace hx140_1 := (HB.out.cell (World.block_lt_of_cell? w _ hx140_1)).trans hx140_1; replace hx140_0 := (cell_far (p := ⟨gb139, 0, none⟩) (by first | (rw [add_block]; exact hn140_0) | (show (Addr.add _ _).block ≠ _; rw [add_block]; exact hn140_0) | exact hn140_0) (.int .i64 ((rd_T25 l0 x9_1).f0))).trans hx140_0; replace hx140_1 := (cell_far (p := ⟨gb139, 0, none⟩) (by first | (rw [add_block]; exact hn140_0) | (show (Addr.add _ _).block ≠ _; rw [add_block]; exact hn140_0) | exact hn140_0) (.int .i64 ((rd_T25 l0 x9_1).f0))).trans hx140_1; replace hx140_0 := (cell_far (p := ⟨gb139, 1, none⟩) (by first | (rw [add_block]; exact hn140_1) | (show (Addr.add _ _).block ≠ _; rw [add_block]; exact hn140_1) | exact hn140_1) (.int .i64 ((rd_T25 l0 x9_1).f1))).trans hx140_0; replace hx140_1 := (cell_far (p := ⟨gb139, 1, none⟩) (by first | (rw [add_block]; exact hn140_1) | (show (Addr.add _ _).block ≠ _; rw [add_block]; exact hn140_1) | exact hn140_1) (.int .i64 ((rd_T25 l0 x9_1).f1))).trans hx140_1; clear hn140_0; clear hn140_1; replace p140 := eq_true p140; replace q140 := eq_true q140) | ((with_reducible refine gate_dst (N := 6) rfl ?_); refine box_event ?hg (N := 6) ?hd (cs := #[.int .i64 0, .int .i64 0]) (t := 25) ?hr ?_; (case hd => rfl); (case hg => rfl); (case hr => first | (go_simp; done) | (go_simp; rfl)); intro gb141 hg w11 hbox hb; have n0_ := Aside0.mk (blk_below (g := gb139) (o := .cells #[.int .i64 ((rd_T25 l0 x9_1).f0), .int .i64 ((rd_T25 l0 x9_1).f1)] 25 (0, 0)) (by (with_reducible repeat (first | refine blk_drewN ?_ _ | refine blk_drew ?_ | refine blk_alloc ?_ _)); refine blk_put (cs := #[.int .i64 ((rd_T25 l0 x9_1).f0), .int .i64 0]) ?_ 1 _ rfl; (with_reducible repeat (first | refine blk_drewN ?_ _ | refine blk_drew ?_ | refine blk_alloc ?_ _)); refine blk_put (cs := #[.int .i64 0, .int .i64 0]) ?_ 0 _ rfl; (with_reducible repeat (first | refine blk_drewN ?_ _ | refine blk_drew ?_ | refine blk_alloc ?_ _)); exact BK139.out) hb); have n1_ := Aside0.mk (below_step (by repeat (first | (with_reducible first | exact HB.out | apply below_alloc | apply pw_below_drewN | apply below_drew1 | refine below_set ?_ GE139.out) | exact HB.out)) hb); have n2_ := Aside0.mk (hbox); have n3_ := Aside0.mk ((by rw [hg]; exact (below_size (by repeat (first | (with_reducible first | exact HB.out | apply below_alloc | apply pw_below_drewN | apply below_drew1 | refine below_set ?_ GE139.out) | exact HB.out))) : w.heap.size ≤ gb141)); have n4_ := Aside0.mk ((by rw [hg]; exact (below_size (by repeat (first | (with_reducible first | exact HB.out | apply below_alloc | apply pw_below_drewN | apply below_drew1 | refine below_set ?_ GE139.out) | exact HB.out))) : w.heap.size ≤ gb141)); have n5_ := Aside0.mk ((by rw [hg]; exact Nat.ne_of_lt (blk_lt (g := gb139) (o := .cells #[.int .i64 ((rd_T25 l0 x9_1).f0), .int .i64 ((rd_T25 l0 x9_1).f1)] 25 (0, 0)) (by (with_reducible repeat (first | refine blk_drewN ?_ _ | refine blk_drew ?_ | refine blk_alloc ?_ _)); refine blk_put (cs := #[.int .i64 ((rd_T25 l0 x9_1).f0), .int .i64 0]) ?_ 1 _ rfl; (with_reducible repeat (first | refine blk_drewN ?_ _ | refine blk_drew ?_ | refine blk_alloc ?_ _)); refine blk_put (cs := #[.int .i64 0, .int .i64 0]) ?_ 0 _ rfl; (with_reducible repeat (first | refine blk_drewN ?_ _ | refine blk_drew ?_ | refine blk_alloc ?_ _)); exact BK139.out)) : gb139 ≠ gb141)); have n6_ := Aside0.mk ((by rw [hg]; exact Nat.ne_of_gt (blk_lt (g := gb139) (o := .cells #[.int .i64 ((rd_T25 l0 x9_1).f0), .int .i64 ((rd_T25 l0 x9_1).f1)] 25 (0, 0)) (by (with_reducible repeat (first | refine blk_drewN ?_ _ | refine blk_drew ?_ | refine blk_alloc ?_ _)); refine blk_put (cs := #[.int .i64 ((rd_T25 l0 x9_1).f0), .int .i64 0]) ?_ 1 _ rfl; (with_reducible repeat (first | refine blk_drewN ?_ _ | refine blk_drew ?_ | refine blk_alloc ?_ _)); refine blk_put (cs := #[.int .i64 0, .int .i64 0]) ?_ 0 _ rfl; (with_reducible repeat (first | refine blk_drewN ?_ _ | refine blk_drew ?_ | refine blk_alloc ?_ _)); exact BK139.out)) : gb141 ≠ gb139)); clear BK139; clear HB; have BK139 := n0_; have HB := n1_; have BK141 := n2_; have GW141 := n3_; have GE141 := n4_; have NB139_141 := n5_; have NB141_139 := n6_; clear n0_ n1_ n2_ n3_ n4_ n5_ n6_; clear hb hbox hg; have hnb12 := NB141_139.out; have hnc12 := NB139_141.out; have hcz13_0 : w11.cell? ⟨gb141, 0, none⟩ = some (.int .i64 0) := (blk_cell BK141.out 0).trans rfl; have hcz13_1 : w11.cell? ⟨gb141, 1, none⟩ = some (.int .i64 0) := (blk_cell BK141.out 1).trans rfl; have hfz13_0 := blk_frozen BK141.out 0; have hfz13_1 := blk_frozen BK141.out 1; have hcz14_0 : w11.cell? ⟨gb139, 0, none⟩ = some (.int .i64 ((rd_T25 l0 x9_1).f0)) := (blk_cell BK139.out 0).trans rfl; have hcz14_1 : w11.cell? ⟨gb139, 1, none⟩ = some (.int .i64 ((rd_T25 l0 x9_1).f1)) := (blk_cell BK139.out 1).trans rfl; have hfz14_0 := blk_frozen BK139.out 0; have hfz14_1 := blk_frozen BK139.out 1)); go_roundg k1
         case measure => have := HK1.out; omega
         case rel => exact ⟨(wrap64 (x3_1 + (wrap64 ((wrap64 (((rd_T25 l0 x9_1).f0) * ((rd_T25 l0 (ji6)).f1))) - (wrap64 (((rd_T25 l0 x9_1).f1) * ((rd_T25 l0 (ji6)).f0))))))), (wrap64 (x9_1 + 1)), (by first | rfl | (simp; done) | (simp only [← hji6] <;> (first | rfl | simp)) | (simp [*]; done)), rfl, H', ⟨by have := HK1.out; omega⟩, ⟨by repeat (first | (with_reducible first | exact HB.out | apply below_alloc | apply pw_below_drewN | apply below_drew1 | refine below_set ?_ GE139.out | refine below_set ?_ GE141.out) | exact HB.out)⟩⟩
        ·rw [if_neg c8] at H
         exact absurd H (by simp)
       ·rw [if_neg c7] at H
        exact absurd H (by simp)
     ·rw [if_neg c4] at H
      exact absurd H (by simp)
    ·rw [if_neg c3] at H
     exact absurd H (by simp)
   ·rw [if_neg c2] at H
    have c2b0 : decide (x9_1 < (l0.length : Int)) = false := decide_eq_false c2; clear c2; obtain rfl := Option.some.inj H; go_wp2; go_ret
    exact ⟨by first | rfl | (simp <;> rfl), by with_reducible repeat (first | exact HB.out | apply below_alloc | apply pw_below_drewN | apply below_drew1)⟩

end Go.Proofs.Ytihnhpohbpfkmaa.XFnColors
