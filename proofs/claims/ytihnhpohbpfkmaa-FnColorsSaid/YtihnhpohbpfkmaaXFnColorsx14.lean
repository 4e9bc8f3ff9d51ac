/- What functions of the program compute, as plain Lean functions, and that Go's calls come to just that: written by wip/tools/xprint.py for the law FnColors. -/
import Derived.Test.YtihnhpohbpfkmaaXFnColorsx0
import Derived.Test.YtihnhpohbpfkmaaXFnColorsx3
import Derived.Test.YtihnhpohbpfkmaaXFnColorsx5
import Derived.Test.YtihnhpohbpfkmaaXFnColorsx7
import Derived.Test.YtihnhpohbpfkmaaXFnColorsx8
import Derived.Test.YtihnhpohbpfkmaaXFnColorsx12
import Derived.Test.YtihnhpohbpfkmaaXFnColorsx13
namespace Go.Proofs.Ytihnhpohbpfkmaa.XFnColors
open Go.RowKit Go.Proofs.YtihnhpohbpfkmaaW.PrintWords Go.Proofs.YtihnhpohbpfkmaaW.PrintLast Go.Proofs.YtihnhpohbpfkmaaW.PrintMore
attribute [local go_sem] max2_int min2_int max_two min_two max_three min_three max_four min_four   -- for this text's walks alone
set_option linter.unusedVariables false
set_option linter.unusedSimpArgs false

/-! ### impl_EqualCut: function 18 -/
def impl_EqualCut.od0 : List Nat := [0, 1, 3, 4, 5, 6, 2, 7, 8, 9]
def impl_Point_109.f (l0 : List (S25)) : Option (List (S25)) := if l0.length < 8796093022208 then some l0 else none
set_option maxHeartbeats 8000000 in
set_option maxRecDepth 100000 in
theorem impl_Point_109.calls (A0 : Option Addr) (c0 : Nat) (l0 : List (S25)) (r : List (S25)) (w : World) (hr0 : Kd.C k25 w A0 l0.length l0) (hc0 : l0.length ≤ c0) (h : impl_Point_109.f l0 = some r) :
  Calls Try.prog 109 #[.slice A0 l0.length c0] w fun e w' => ∃ v0_ : Value, e = .returned (v0_) ∧ Kd.R k25 25 w' w.heap.size (fun _ => True) v0_ r ∧ Below w.heap.size w w' := by
 have HR0 := Aside0.mk hr0
 have HC0 := Aside0.mk hc0
 clear hc0
 have HB := Aside0.mk (Below.refl w.heap.size w)
 have q33 : ∀ (w : World) (a : Option Addr) (n c n' c' : Nat), (binOp .eql 33 (.slice a n c) (.slice none n' c')).run Try.prog w = .ok (.bool a.isNone) w := fun w a n c n' c' => Lib.run_eql_slice_nil w _ _ a n c n' c' Try.underlying33
 unfold impl_Point_109.f at h
 by_cases hl : l0.length < 8796093022208
 rotate_left
 ·rw [if_neg hl] at h
  cases h
 rw [if_pos hl] at h
 have LM := Aside0.mk hl
 clear hl
 obtain rfl := Option.some.inj h
 clear h
 cases A0 with
 | none =>
  have e0 : l0 = [] := by
   rcases Nat.eq_zero_or_pos l0.length with h | h
   ·exact List.length_eq_zero_iff.mp h
   ·obtain ⟨ad, e, _⟩ := hr0.2.2 h
    cases e
  clear hr0; subst e0
  go_enter Try.func109, Try.ntmps109
  go_wp2
  go_ret
  exact ⟨_, rfl, Kd.R_nil _ _ _ _ _, HB.out⟩
 | some ad =>
  clear hr0; go_enter Try.func109, Try.ntmps109
  have hR := HR0.out; go_wp2_with (first | ((with_reducible refine gate_dst (N := 5) rfl ?_); refine Kd.R_lit k25 _ 25 ?hg (N := 5) ?hd (xs := ([] : List (S25))) (inner := []) (ok := fun _ => True) (okp := fun _ => True) ?hr ?hp (fun _ hk => hk) trivial (Below.refl _ _) (Nat.le_refl _) (by simp) ?_; (case hd => rfl); (case hg => rfl); (case hr => first | (go_simp; done) | (go_simp; rfl)); (case hp => exact (Reps.none _ _)); intro v278 w12 ho13 hb hg_ hnew_; clear hg_ hnew_; have HO := Aside0.mk (Kd.R_lower ho13 (below_size HB.out)); replace HB := Aside0.mk (below_step HB.out hb); clear hb ho13) | ((with_reducible refine gate_builtin (b := .append) (xs := #[.tmp 5, .tmp 6]) rfl ?_); refine Kd.R_append_rows k25 (w0 := w) w.heap.size (by rfl) (.tmp 5) (.tmp 6) 33 25 (.agg #[(.int .i64 0), (.int .i64 0)]) 16 rfl Try.underlying33 info25 rfl (by decide) (by omega) v278 ([] : List (S25)) l0 _ _ _ (fun _ => True) (fun _ => False) rfl rfl ?aO ?aR (fun _ _ h => h) (fun _ h => h.elim) ?aF ?aB ?aS ?aL ?_; (case aR => exact (Kd.C_below hR HB.out)); (case aB => exact HB.out); (case aF => exact (fun _ _ => trivial)); (case aO => exact HO.out); (case aS => exact (below_size HB.out)); (case aL => have := LM.out; simp only [List.length_nil]; omega); intro v285 w14 ho hb hg hat; rw [List.nil_append] at ho; replace HB := Aside0.mk hb; clear HO; have HO := Aside0.mk ho; clear ho hb hg hat))
  go_ret
  exact ⟨_, rfl, HO.out, HB.out⟩
def lays_Nm84_ren : Go.Shelf.Ren := ⟨fun | 4 => 111 | n => n, fun | 22 => 33 | n => n, fun n => n⟩
theorem lays_Nm84 : Go.Proofs.Lays8.n4 Try.prog lays_Nm84_ren := {
 mixed := by kernel_rfl,
 f4 := ⟨"slices.Grow[[]loop.example/g03208/impl.Point,loop.example/g03208/impl.Point]", by kernel_rfl, Try.func111.trans (congrArg some (by kernel_rfl))⟩,
 t0 := Try.underlying0,
 a0 := Try.isAgg0,
 z0 := Try.sizeOf0,
 v0 := Try.zeroValue0,
 t3 := Try.underlying3,
 a3 := Try.isAgg3,
 z3 := Try.sizeOf3,
 v3 := Try.zeroValue3,
 t4 := Try.underlying4,
 a4 := Try.isAgg4,
 z4 := Try.sizeOf4,
 v4 := Try.zeroValue4,
 t9 := Try.underlying9,
 a9 := Try.isAgg9,
 z9 := Try.sizeOf9,
 v9 := Try.zeroValue9,
 t20 := Try.underlying20,
 a20 := Try.isAgg20,
 z20 := Try.sizeOf20,
 v20 := Try.zeroValue20,
 t22 := Try.underlying33,
 a22 := Try.isAgg33,
 z22 := Try.sizeOf33,
 v22 := Try.zeroValue33 }
/-- slices.Grow of the nil slice of points. -/
theorem impl_Point_111.nil (n : Int) (h0 : 0 ≤ n) (h1 : n ≤ 1000000) (w : World) : Calls Try.prog 111 #[.slice none 0 0, .int .i64 n] w fun e w' => ∃ v0_ : Value, e = .returned (v0_) ∧ Kd.R k25 25 w' w.heap.size (fun _ => True) v0_ ([] : List (S25)) ∧ Below w.heap.size w w' := by
 obtain ⟨m, rfl⟩ := Int.eq_ofNat_of_zero_le h0
 rcases Nat.eq_zero_or_pos m with hm | hm
 ·subst hm
  refine (Go.Proofs.Any8.slices_Grow_room lays_Nm84 none 0 0 0 w (Nat.le_refl _) (by omega) (by omega) (Nat.le_refl _)).mono ?_; rintro e w' ⟨rfl, rfl⟩
  exact ⟨_, rfl, Kd.R_nil _ _ _ _ _, Below.refl _ _⟩
 ·obtain ⟨i0, hi, hz0, hz1, hz2⟩ := info_parts info25
  refine (Go.Proofs.Any8.slices_Grow_grow lays_Nm84 i0 (.agg #[(.int .i64 0), (.int .i64 0)]) hi hz0 (by rw [hz1]; decide) none 0 0 m [] w (Nat.le_refl _) (by omega) (by rw [hz2]; omega) (by omega) (by simp) (fun _ => rfl) (fun a e => by cases e)).mono ?_; rintro e w' ⟨rfl, rfl⟩
  refine ⟨_, rfl, ⟨fun k hk => trivial, ⟨[], ?_, Reps.none _ _⟩⟩, ?_⟩
  ·refine World.ownsRow_made w.drew _ _ (Nat.le_refl _) (grownCap_le_maxLen _ _ _ _ (by unfold maxLen; omega)) ?_
   have hg := grownCap_ge w (0 + m) 0 (lays_Nm84_ren.t 25); simp only [Array.size_append, size_zeroCells, List.size_toArray, List.length_nil, Nat.zero_add]; have : (Value.agg #[(.int .i64 0), (.int .i64 0)] : Value).cells.size = 2 := by rfl
   have hk : k25.sz = 2 := by rfl
   simp only [this, hk, Nat.zero_add] at hg ⊢; omega
  ·exact ((Below.refl _ w).drew).alloc (Nat.le_refl _) _
/-- slices.Concat of two rows of points. -/
def ccSum (l1 l2 : List S25) : Nat → Int
 | 0 => 0
 | 1 => (l1.length : Int)
 | _ => (l1.length : Int) + (l2.length : Int)
def ccRow (l1 l2 : List S25) : Nat → List S25
 | 0 => []
 | 1 => l1
 | _ => l1 ++ l2
set_option maxHeartbeats 8000000 in
set_option maxRecDepth 100000 in
theorem impl_Point_78.two (ad : Addr) (A1 A2 : Option Addr) (c1 c2 : Nat) (l1 l2 : List S25) (w : World) (hx0 : w.cell? ad = some (.slice A1 l1.length c1)) (hx1 : w.cell? (ad.add 1) = some (.slice A2 l2.length c2)) (hr1 : Kd.C k25 w A1 l1.length l1) (hr2 : Kd.C k25 w A2 l2.length l2) (hn : l1.length + l2.length ≤ 1000) :
  Calls Try.prog 78 #[.slice (some ad) 2 2] w fun e w' => ∃ v0_ : Value, e = .returned (v0_) ∧ Kd.R k25 25 w' w.heap.size (fun _ => True) v0_ (l1 ++ l2) ∧ Below w.heap.size w w' := by
 have HR1 := Aside0.mk hr1
 have HR2 := Aside0.mk hr2
 clear hr1 hr2
 have HB := Aside0.mk (Below.refl w.heap.size w)
 have hx1' : w.cell? ⟨ad.block, ad.off + 1, none⟩ = some (.slice A2 l2.length c2) := by
  rw [← hx1]; simp [Addr.add]
 go_enter Try.func78, Try.ntmps78
 go_wp2
 have L1 : ((l1.length : Nat) : Int) ≤ 1000 := by omega
 have L2 : ((l2.length : Nat) : Int) ≤ 1000 := by omega
 go_loopg [3, 11] 3 (fun q v3 v11 w' => ∃ i : Nat, v11 = .int .i64 (i : Int) ∧ v3 = .int .i64 (ccSum l1 l2 i) ∧ Aside0 (i + q = 3 ∧ i ≤ 2) ∧ Aside0 (w' = w))
 case atStart => exact ⟨0, rfl, rfl, ⟨rfl, by omega⟩, ⟨rfl⟩⟩
 case round =>
  obtain ⟨i, rfl, rfl, HI, HW⟩ := hrel; have hw := HW.out.symm; clear HW; subst hw
  cases gk with
  | zero => exact absurd HI.out (by omega)
  | succ k1 =>
   rcases i with _ | _ | _ | i
   ·have e1 : wrap64 (ccSum l1 l2 0 + (l1.length : Int)) = (l1.length : Int) := by show wrap64 (0 + _) = _; unfold wrap64; omega
    have d1 : decide ((l1.length : Int) < 0) = false := decide_eq_false (by omega); go_wp2
    go_roundg k1
    case measure => exact Nat.lt_succ_self _
    case rel => exact ⟨1, rfl, congrArg _ e1, ⟨by have := HI.out; omega⟩, ⟨rfl⟩⟩
   ·have e1 : wrap64 (ccSum l1 l2 1 + (l2.length : Int)) = (l1.length : Int) + (l2.length : Int) := by show wrap64 ((l1.length : Int) + _) = _; unfold wrap64; omega
    go_wp2
    go_roundg k1
    case measure => exact Nat.lt_succ_self _
    case rel => exact ⟨2, rfl, congrArg _ e1, ⟨by have := HI.out; omega⟩, ⟨rfl⟩⟩
   ·clear HI
    go_wp2_with (first | (go_at_call 111; refine (impl_Point_111.nil (ccSum l1 l2 2) (by show 0 ≤ (l1.length : Int) + (l2.length : Int); omega) (by show (l1.length : Int) + (l2.length : Int) ≤ 1000000; omega) _).mono ?_; rintro e w' ⟨v6, rfl, ho, hb⟩; have HO := Aside0.mk ho; replace HB := Aside0.mk hb; clear ho hb))
    go_loopg [6, 27] 3 (fun q v6 v27 w' => ∃ i : Nat, v27 = .int .i64 (i : Int) ∧ Aside0 (i + q = 3 ∧ i ≤ 2) ∧ Aside0 (Kd.R k25 25 w' w.heap.size (fun _ => True) v6 (ccRow l1 l2 i)) ∧ Aside0 (Below w.heap.size w w'))
    case atStart => exact ⟨0, rfl, ⟨rfl, by omega⟩, HO, HB⟩
    case round =>
     clear HO HB; obtain ⟨i, rfl, HI, HO, HB⟩ := hrel; cases gk with
     | zero => exact absurd HI.out (by omega)
     | succ k2 =>
      have y0 := (HB.out.cell (World.block_lt_of_cell? w _ hx0)).trans hx0; have y1 := (HB.out.cell (World.block_lt_of_cell? w _ hx1')).trans hx1'; have hR1 := Aside0.mk (Kd.C_below HR1.out HB.out); have hR2 := Aside0.mk (Kd.C_below HR2.out HB.out); rcases i with _ | _ | _ | i
      ·go_wp2_with (first | ((with_reducible refine gate_builtin (b := .append) (xs := #[.tmp 31, .tmp 32]) rfl ?_); refine Kd.R_append_rows k25 (w0 := w) w.heap.size (by rfl) (.tmp 31) (.tmp 32) 33 25 (.agg #[(.int .i64 0), (.int .i64 0)]) 16 rfl Try.underlying33 info25 rfl (by decide) (by omega) u6 ([] : List (S25)) l1 _ _ _ (fun _ => True) (fun _ => False) rfl rfl ?aO ?aR (fun _ _ h => h) (fun _ h => h.elim) ?aF ?aB ?aS ?aL ?_; (case aR => exact hR1.out); (case aB => exact HB.out); (case aF => exact (fun _ _ => trivial)); (case aO => exact HO.out); (case aS => exact (below_size HB.out)); (case aL => simp only [List.length_nil]; omega); intro v285 w14 ho hb hg hat; rw [List.nil_append] at ho; replace HB := Aside0.mk hb; clear HO; have HO := Aside0.mk ho; clear ho hb hg hat))
       go_roundg k2
       case measure => exact Nat.lt_succ_self _
       case rel => exact ⟨1, rfl, ⟨by have := HI.out; omega⟩, HO, HB⟩
      ·go_wp2_with (first | ((with_reducible refine gate_builtin (b := .append) (xs := #[.tmp 31, .tmp 32]) rfl ?_); refine Kd.R_append_rows k25 (w0 := w) w.heap.size (by rfl) (.tmp 31) (.tmp 32) 33 25 (.agg #[(.int .i64 0), (.int .i64 0)]) 16 rfl Try.underlying33 info25 rfl (by decide) (by omega) u6 l1 l2 _ _ _ (fun _ => True) (fun _ => False) rfl rfl ?aO ?aR (fun _ _ h => h) (fun _ h => h.elim) ?aF ?aB ?aS ?aL ?_; (case aR => exact hR2.out); (case aB => exact HB.out); (case aF => exact (fun _ _ => trivial)); (case aO => exact HO.out); (case aS => exact (below_size HB.out)); (case aL => omega); intro v285 w14 ho hb hg hat; replace HB := Aside0.mk hb; clear HO; have HO := Aside0.mk ho; clear ho hb hg hat))
       go_roundg k2
       case measure => exact Nat.lt_succ_self _
       case rel => exact ⟨2, rfl, ⟨by have := HI.out; omega⟩, HO, HB⟩
      ·go_wp2
       go_ret
       exact ⟨_, rfl, HO.out, HB.out⟩
      ·exact absurd HI.out (by omega)
   ·exact absurd HI.out (by omega)
/-- impl.turned of four points: the first one, then the others in reverse order. -/
def tuRow (l : List S25) : List S25 := [rd_T25 l 0, rd_T25 l 3, rd_T25 l 2, rd_T25 l 1]
def impl_turned.f (l0 : List S25) : Option (List S25) := if l0.length = 4 then some (tuRow l0) else none
def impl_turned.T3 : Bool × List (List Nat × List Nat) := (true, [([], []), ([], []), ([], []), ([], []), ([], []), ([], []), ([4, 5], [4, 5]), ([6], [6]), ([], []), ([], []), ([8, 9], [8, 9]), ([10], [10]), ([0, 1, 0, 1, 4, 5, 6, 7, 11], [0, 1]), ([12, 7, 0, 1, 4, 5, 6, 7, 11], [7, 12]), ([2, 3, 0, 1, 2, 3, 4, 5, 6, 7, 8, 9, 10, 11, 12, 13], [2, 3]), ([14, 11, 13, 0, 1, 2, 3, 4, 5, 6, 7, 8, 9, 10, 11, 12, 13], [11, 14])])
def impl_turned.B3 : List Nat := [0, 0, 0, 0, 0, 0, 48, 112, 0, 0, 768, 1792, 4083, 8179, 16383, 32767]
theorem impl_turned.tab3 : rtab .any (opsOf Try.f110 3) = impl_turned.T3 := by kernel_rfl
theorem impl_turned.bits3 : waitsOk impl_turned.T3.2 impl_turned.B3 = true := by kernel_rfl
theorem tu_four {l : List S25} (h : l.length = 4) : l = [rd_T25 l 0, rd_T25 l 1, rd_T25 l 2, rd_T25 l 3] := by
 match l, h with
 | [a, b, c, d], _ => rfl
theorem tu_set {l : List S25} (h : l.length = 4) : (l.set (1 : Int).toNat (rd_T25 l 3)).set (3 : Int).toNat (rd_T25 l 1) = tuRow l := by
 match l, h with
 | [a, b, c, d], _ => rfl
set_option maxHeartbeats 8000000 in
set_option maxRecDepth 100000 in
theorem tu_rev (g c c0 : Nat) (P0 : Nat → Prop) (B : Nat) (l0 : List S25) (hl : l0.length = 4) (w : World) (ho : Kd.R k25 25 w B P0 (.slice (some ⟨g, 0, none⟩) 4 c0) l0) (hg : B ≤ g) :
  Calls Try.prog 110 #[.slice (some ⟨g, 2, none⟩) 3 c] w fun e w' => e = .returned (.tuple #[]) ∧ Kd.R k25 25 w' B P0 (.slice (some ⟨g, 0, none⟩) 4 c0) (tuRow l0) ∧ Below B w w' := by
 have hu25 := Try.underlying25
 have HL := Aside0.mk hl
 have HO := Aside0.mk ho
 have HB := Aside0.mk (Below.refl B w)
 clear hl ho
 go_enter Try.func110, Try.ntmps110
 go_wp2
 go_loopg [2, 3] 1 (fun q v2 v3 w' => ∃ i : Nat, v2 = .int .i64 (i : Int) ∧ v3 = .int .i64 (2 - (i : Int)) ∧ Aside0 (i + q = 1) ∧ Aside0 (Kd.R k25 25 w' B P0 (.slice (some ⟨g, 0, none⟩) 4 c0) (if i = 0 then l0 else tuRow l0)) ∧ Aside0 (Below B w w'))
 case atStart => exact ⟨0, rfl, rfl, ⟨rfl⟩, HO, HB⟩
 case round =>
  clear HO HB; obtain ⟨i, rfl, rfl, HI, HO, HB⟩ := hrel; rcases i with _ | _ | i
  ·have HO1 : Aside0 (Kd.R k25 25 wr B P0 (.slice (some ⟨g, 0, none⟩) 4 c0) l0) := HO
   clear HO; have HO := HO1; clear HO1; go_wp2
   have n0_ := Aside0.mk (Kd.R_drew HO.out); have n2_ := Aside0.mk (below_drew1 HB.out); clear HO HB; have HO := n0_; have HB := n2_; clear n0_ n2_; have L4 : ((l0.length : Nat) : Int) = 4 := by have := HL.out; omega
   obtain ⟨ce8, hcl8, hM8, hcc8, hfr8⟩ := Kd.R_elem HO.out z25 (1 : Int) (by omega) (by omega); obtain rfl := k25_openM hM8; have hx8_0 : World.cell? _ ⟨g, 2, none⟩ = some (.int .i64 ((rd_T25 l0 1).f0)) := hcc8 0 _ rfl; have hx8_1 : World.cell? _ ⟨g, 3, none⟩ = some (.int .i64 ((rd_T25 l0 1).f1)) := hcc8 1 _ rfl; have hf8_0 : World.frozen? _ ⟨g, 2, none⟩ = false := hfr8 0; have hf8_1 : World.frozen? _ ⟨g, 3, none⟩ = false := hfr8 1; obtain ⟨ce9, hcl9, hM9, hcc9, hfr9⟩ := Kd.R_elem HO.out z25 (3 : Int) (by omega) (by omega); obtain rfl := k25_openM hM9; have hx9_0 : World.cell? _ ⟨g, 6, none⟩ = some (.int .i64 ((rd_T25 l0 3).f0)) := hcc9 0 _ rfl; have hx9_1 : World.cell? _ ⟨g, 7, none⟩ = some (.int .i64 ((rd_T25 l0 3).f1)) := hcc9 1 _ rfl; have HP8 := (Kd.R_seg HO.out (1 : Int) (by omega) (by omega) (seg := [.int .i64 ((rd_T25 l0 3).f0), .int .i64 ((rd_T25 l0 3).f1)]) (j := 0) hcl8 hcc8 (show 2 ≤ 2 from by decide) (x' := (rd_T25 l0 3)) (k25_mkM _ _ _ (rd_T25 l0 3)) (fun _ hk => hk)).1; have L5 : (((l0.set (1 : Int).toNat (rd_T25 l0 3)).length : Nat) : Int) = 4 := by rw [List.length_set]; omega
   obtain ⟨cf9, gcl9, gM9, gcc9, gfr9⟩ := Kd.R_elem HP8 z25 (3 : Int) (by omega) (by omega); obtain rfl := k25_openM gM9; have hf9_0 : World.frozen? _ ⟨g, 6, none⟩ = false := hfr9 0; have hf9_1 : World.frozen? _ ⟨g, 7, none⟩ = false := hfr9 1; have hy9_0 : World.cell? _ ⟨g, 6, none⟩ = some (.int .i64 ((rd_T25 (l0.set (1 : Int).toNat (rd_T25 l0 3)) 3).f0)) := gcc9 0 _ rfl; have hy9_1 : World.cell? _ ⟨g, 7, none⟩ = some (.int .i64 ((rd_T25 (l0.set (1 : Int).toNat (rd_T25 l0 3)) 3).f1)) := gcc9 1 _ rfl; have HP9 := Aside0.mk (Kd.R_seg HP8 (3 : Int) (by omega) (by omega) (seg := [.int .i64 ((rd_T25 l0 1).f0), .int .i64 ((rd_T25 l0 1).f1)]) (j := 0) gcl9 gcc9 (show 2 ≤ 2 from by decide) (x' := (rd_T25 l0 1)) (k25_mkM _ _ _ (rd_T25 l0 1)) (fun _ hk => hk)).1; clear hcl8 hM8 hcc8 hfr8 hcl9 hM9 hcc9 hfr9 gcl9 gM9 gcc9 gfr9 HP8 L5 HO; refine start_ (n := 16) (S := fun w' => w'.cell? ⟨g, 6, none⟩ = some (.int .i64 ((rd_T25 l0 3).f0)) ∧ w'.cell? ⟨g, 7, none⟩ = some (.int .i64 ((rd_T25 l0 3).f1)) ∧ w'.cell? ⟨g, 2, none⟩ = some (.int .i64 ((rd_T25 l0 1).f0)) ∧ w'.cell? ⟨g, 3, none⟩ = some (.int .i64 ((rd_T25 l0 1).f1))) (ds := [13, 15]) (qD_ 16 0) (by kernel_rfl) rfl rfl ⟨hx9_0, hx9_1, hx8_0, hx8_1⟩ (fun hHeld => ?_); refine with_tabW impl_turned.tab3 impl_turned.bits3 (fun HT_ HW_ => ?_); clear L4; generalize wr.drew = w10 at HB HP9 hf8_0 hf8_1 hf9_0 hf9_1 hx8_0 hx8_1 hx9_0 hx9_1 hy9_0 hy9_1 hHeld ⊢
   iterate 13 (first | (refine hz_ HT_ ?zy ?zp ?_ (v := ?_) (a' := ?_); (case zy => intro w'; go_simp; with_reducible rfl); (case zp => simp only [Act.put, List.setIfInBounds_toArray, List.set_cons_zero, List.set_cons_succ, i64_w, i32_w]; rfl)) | (refine ht_ HT_ HW_ hHeld ?zy ?zp ?_ (v := ?_) (a' := ?_); (case zy => rintro w' s_; obtain ⟨s0, s1, s2, s3⟩ := s_; go_simp; with_reducible rfl); (case zp => simp only [Act.put, List.setIfInBounds_toArray, List.set_cons_zero, List.set_cons_succ, i64_w, i32_w]; rfl)))
   refine last_ (i := 13) (N := none) (qD_ 16 14) rfl rfl (one_of HT_.out (by kernel_rfl)) (by decide) (fun K hK => ?_); refine skip_ (w1 := ?_) (by rfl) rfl ?_ ?_; rotate_left
   ·go_simp
    rfl
   refine hK.out _ _ ?_; clear hK K; iterate 1 (first | (refine hz_ HT_ ?zy ?zp ?_ (v := ?_) (a' := ?_); (case zy => intro w'; go_simp; with_reducible rfl); (case zp => simp only [Act.put, List.setIfInBounds_toArray, List.set_cons_zero, List.set_cons_succ, i64_w, i32_w]; rfl)))
   refine last_ (i := 15) (N := none) (qD_ 16 16) rfl rfl (one_of HT_.out (by kernel_rfl)) (by decide) (fun K hK => ?_); refine skip_ (w1 := ?_) (by rfl) rfl ?_ ?_; rotate_left
   ·go_simp
    rfl
   refine hK.out _ _ ?_; clear hK K; refine done_ (done_of HT_.out (by kernel_rfl)) ?_; go_wp2
   go_roundg 0
   case measure => have := HI.out; omega
   case rel => exact ⟨1, rfl, rfl, ⟨rfl⟩, ⟨by have h_ := HP9.out; rw [tu_set HL.out] at h_; exact h_⟩, ⟨by repeat (first | exact HB.out | refine Below.setCell ?_ hg _)⟩⟩
  ·go_wp2
   first | go_end0 | ((try simp only [Exit.inBlock, Exit.then]); refine bodyPost_ret (results_none rfl _ _ _) rfl ?_)
   exact ⟨rfl, HO.out, HB.out⟩
  ·exact absurd HI.out (by omega)
set_option maxHeartbeats 8000000 in
set_option maxRecDepth 100000 in
theorem impl_turned.calls (A0 : Option Addr) (c0 : Nat) (l0 : List S25) (r : List S25) (w : World) (hr0 : Kd.C k25 w A0 l0.length l0) (hc0 : l0.length ≤ c0) (h : impl_turned.f l0 = some r) :
  Calls Try.prog 76 #[.slice A0 l0.length c0] w fun e w' => ∃ v0_ : Value, e = .returned (v0_) ∧ Kd.R k25 25 w' w.heap.size (fun _ => True) v0_ r ∧ Below w.heap.size w w' := by
 have HR0 := Aside0.mk hr0
 have HC0 := Aside0.mk hc0
 clear hr0 hc0
 unfold impl_turned.f at h
 by_cases h4 : l0.length = 4
 rotate_left
 ·rw [if_neg h4] at h
  cases h
 rw [if_pos h4] at h
 obtain rfl := Option.some.inj h
 have H4 := Aside0.mk h4
 clear h h4
 go_enter Try.func76, Try.ntmps76
 go_wp2_with (first | (go_at_call 109; refine (impl_Point_109.calls A0 c0 l0 l0 w HR0.out HC0.out (by unfold impl_Point_109.f; rw [if_pos (by have := H4.out; omega)])).mono ?_; rintro e w2 ⟨v2, rfl, ho, hb⟩; have HO := Aside0.mk ho; have HB := Aside0.mk hb; clear ho hb; obtain ⟨go8, co8, rfl, gb8, gl8, cl8, HG8⟩ := Kd.R_form HO.out (by have := H4.out; omega); have hl4 : l0.length = 4 := H4.out; have HC4 := Aside0.mk (show 4 ≤ co8 by have := (Kd.R_reads' HO.out).2.1; omega); have hc5 : (co8 = 1) = False := eq_false (by have := HC4.out; omega)) | (go_at_call 110; refine (tu_rev go8 (co8 - 1) co8 (fun _ => True) w.heap.size l0 H4.out w2 (by have h_ := HO.out; rw [H4.out] at h_; exact h_) gb8).mono ?_; rintro e w3 ⟨rfl, ho, hb⟩; clear HO; have HO := Aside0.mk ho; have HB3 := Aside0.mk (HB.out.trans hb); clear HB; have HB := HB3; clear HB3 ho hb))
 go_ret
 exact ⟨_, rfl, (by have h_ := HO.out; exact h_), HB.out⟩
/-- The rotations of c, from place j on, m of them: is one of them a? -/
def spRot (k : Nat) (a c : List S25) : Nat → Nat → Option Bool
 | 0, _ => some false
 | m + 1, j => (impl_Point_77.f k a (c.drop j ++ c.take j)).bind fun b => if b = true then some true else spRot k a c m (j + 1)
def spOut (k : Nat) (a : List S25) : List (List S25) → Option Bool
 | [] => some false
 | c :: cs => (spRot k a c c.length 0).bind fun x => if x = true then some true else spOut k a cs
def impl_SamePolygon.f (k : Nat) (p q : List S25) : Option Bool :=
 (impl_PolygonOk.f k p).bind fun b0 => if b0 = true then (impl_PolygonOk.f k q).bind fun b1 => if b1 = true then
  (impl_straightened.f k p).bind fun a => (impl_straightened.f k q).bind fun b => (impl_turned.f b).bind fun tb => spOut k a [b, tb]
 else some false else some false
theorem spRot_mono (k : Nat) (a c : List S25) : ∀ m j, LeO (spRot k a c m j) (spRot (k + 1) a c m j)
 | 0, _ => LeO.refl _
 | m + 1, j => LeO.bind (impl_Point_77.mono _ _ k) (fun _ => LeO.ite (LeO.refl _) (spRot_mono k a c m (j + 1)))
theorem spOut_mono (k : Nat) (a : List S25) : ∀ cs, LeO (spOut k a cs) (spOut (k + 1) a cs)
 | [] => LeO.refl _
 | c :: cs => LeO.bind (spRot_mono k a c _ _) (fun _ => LeO.ite (LeO.refl _) (spOut_mono k a cs))
theorem impl_SamePolygon.mono : ∀ p q k, LeO (impl_SamePolygon.f k p q) (impl_SamePolygon.f (k + 1) p q) := fun p q k =>
 LeO.bind (impl_PolygonOk.mono _ k) (fun _ => LeO.ite (LeO.bind (impl_PolygonOk.mono _ k) (fun _ => LeO.ite (LeO.bind (impl_straightened.mono _ k) (fun _ => LeO.bind (impl_straightened.mono _ k) (fun _ => LeO.bind (LeO.refl _) (fun _ => spOut_mono k _ _)))) (LeO.refl _))) (LeO.refl _))
/-- The world ahead of the loops. -/
structure SpW (W : World) (G : Nat) (Aa : Option Addr) (a : List S25) (rows : List (List S25)) : Prop where
 ra : Kd.C k25 W Aa a.length a
 len : rows.length = 2
 row : ∀ i, i < 2 → ∃ g cc, W.cell? ⟨G, i, none⟩ = some (.slice (some ⟨g, 0, none⟩) 4 cc) ∧ 4 ≤ cc ∧ (rows.getD i []).length = 4 ∧ Kd.C k25 W (some ⟨g, 0, none⟩) 4 (rows.getD i [])
theorem sp_cells (w : World) (x y : Value) : (w.alloc (.cells #[x, y] 33)).cell? ⟨w.heap.size, 0, none⟩ = some x ∧ (w.alloc (.cells #[x, y] 33)).cell? ⟨w.heap.size, 1, none⟩ = some y := by
 have h : (w.alloc (.cells #[x, y] 33)).heap[w.heap.size]? = some (.cells #[x, y] 33 (0, 0)) := by
  show (w.heap.push _)[w.heap.size]? = _
  simp
 exact ⟨by unfold World.cell?; rw [h]; rfl, by unfold World.cell?; rw [h]; rfl⟩
theorem sp_world {w6 W0 : World} {G : Nat} {Aa : Option Addr} {a b tb : List S25} {gb cb gt ct : Nat} (hb : Below w6.heap.size w6 W0) (x0 : W0.cell? ⟨G, 0, none⟩ = some (.slice (some ⟨gb, 0, none⟩) b.length cb)) (x1 : W0.cell? ⟨G, 1, none⟩ = some (.slice (some ⟨gt, 0, none⟩) tb.length ct)) (h4 : b.length = 4) (h5 : tb.length = 4)
  (ha : Kd.C k25 w6 Aa a.length a) (hbb : Kd.C k25 w6 (some ⟨gb, 0, none⟩) b.length b) (ht : Kd.C k25 w6 (some ⟨gt, 0, none⟩) tb.length tb) (hc : b.length ≤ cb) (hd : tb.length ≤ ct) : SpW W0 G Aa a [b, tb] := by
 refine ⟨Kd.C_below ha hb, rfl, fun i hi => ?_⟩
 have e1 := Kd.C_below hbb hb
 have e2 := Kd.C_below ht hb
 rw [h4] at x0 e1
 rw [h5] at x1 e2
 rcases i with _ | _ | i
 ·exact ⟨gb, cb, x0, by omega, h4, e1⟩
 ·exact ⟨gt, ct, x1, by omega, h5, e2⟩
 ·omega
def impl_SamePolygon.qB (n m : Nat) : Array Bool := ((List.range n).map fun j => m.testBit j).toArray
def impl_SamePolygon.T10 : Bool × List (List Nat × List Nat) := (true, [([], []), ([], []), ([], []), ([1, 2], [1, 2]), ([], []), ([], []), ([4, 5], [4, 5]), ([3, 6], [3, 6]), ([7], [7]), ([0, 8, 8], [0, 8])])
def impl_SamePolygon.B10 : List Nat := [0, 0, 0, 6, 0, 0, 48, 126, 254, 511]
theorem impl_SamePolygon.tab10 : rtab .any (opsOf Try.f46 10) = impl_SamePolygon.T10 := by kernel_rfl
theorem impl_SamePolygon.bits10 : waitsOk impl_SamePolygon.T10.2 impl_SamePolygon.B10 = true := by kernel_rfl
theorem sp_concat {w : World} {gl g cc j : Nat} {c : List S25} (hl : c.length = 4) (hj : j < 4) (hcc : 4 ≤ cc) (x0 : w.cell? ⟨gl, 0, none⟩ = some (.slice (some ⟨g, j * 2, none⟩) (4 - j) (cc - j))) (x1 : w.cell? ⟨gl, 1, none⟩ = some (.slice (some ⟨g, 0, none⟩) j cc)) (hC : Kd.C k25 w (some ⟨g, 0, none⟩) 4 c) :
  Calls Try.prog 78 #[.slice (some ⟨gl, 0, none⟩) 2 2] w fun e w' => ∃ v0_ : Value, e = .returned (v0_) ∧ Kd.R k25 25 w' w.heap.size (fun _ => True) v0_ (c.drop j ++ c.take j) ∧ Below w.heap.size w w' := by
 have h1 : (c.drop j).length = 4 - j := by rw [List.length_drop, hl]
 have h2 : (c.take j).length = j := by rw [List.length_take, hl]; omega
 rw [← hl] at hC
 have hd := Kd.C_drop hC (m := j) (c := cc) (by omega) (by omega)
 have ht := Kd.C_take hC (m := j) (by omega)
 rw [if_neg (by omega)] at hd
 refine impl_Point_78.two ⟨gl, 0, none⟩ (some ⟨g, j * 2, none⟩) (some ⟨g, 0, none⟩) (cc - j) cc (c.drop j) (c.take j) w (by rw [h1]; exact x0) (by rw [h2]; exact x1) ?_ ?_ (by rw [h1, h2]; omega)
 ·have e : (some (⟨g, 0, none⟩ : Addr)).map (·.add (j * k25.sz)) = some ⟨g, j * 2, none⟩ := by
   show some (Addr.add ⟨g, 0, none⟩ (j * 2)) = _
   simp [Addr.add]
   omega
  rw [e] at hd; exact hd
 ·exact ht
set_option maxHeartbeats 8000000 in
set_option maxRecDepth 100000 in
theorem impl_SamePolygon.calls (k : Nat) (A0 : Option Addr) (c0 : Nat) (l0 : List S25) (A1 : Option Addr) (c1 : Nat) (l1 : List S25) (r : Bool) (w : World) (hr0 : Kd.C k25 w A0 l0.length l0) (hc0 : l0.length ≤ c0) (hr1 : Kd.C k25 w A1 l1.length l1) (hc1 : l1.length ≤ c1) (h : impl_SamePolygon.f k l0 l1 = some r) :
  Calls Try.prog 46 #[.slice A0 l0.length c0, .slice A1 l1.length c1] w fun e w' => e = .returned (.bool r) ∧ Below w.heap.size w w' := by
 have HR0 := Aside0.mk hr0
 have HC0 := Aside0.mk hc0
 have HR1 := Aside0.mk hr1
 have HC1 := Aside0.mk hc1
 clear hr0 hc0 hr1 hc1
 unfold impl_SamePolygon.f at h
 obtain ⟨b0, hb0, h⟩ := Option.bind_eq_some_iff.mp h
 have HP0 := Aside0.mk hb0
 clear hb0
 cases b0 with
 | false =>
  obtain rfl := Option.some.inj (show some false = some r by simpa using h); clear h; go_enter Try.func46, Try.ntmps46
  go_wp2_with (first | (go_at_call 40; refine (impl_PolygonOk.calls k A0 c0 l0 false w HR0.out HC0.out HP0.out).mono ?_; rintro e w2 ⟨rfl, hb⟩; have HB := Aside0.mk hb; clear hb))
  go_ret
  exact ⟨rfl, HB.out⟩
 | true =>
  rw [if_pos rfl] at h; obtain ⟨b1, hb1, h⟩ := Option.bind_eq_some_iff.mp h; have HP1 := Aside0.mk hb1; clear hb1; cases b1 with
  | false =>
   obtain rfl := Option.some.inj (show some false = some r by simpa using h); clear h; go_enter Try.func46, Try.ntmps46
   go_wp2_with (first | (go_at_call 40; first | (with_reducible refine (impl_PolygonOk.calls k A0 c0 l0 true w HR0.out HC0.out HP0.out).mono ?_; rintro e w2 ⟨rfl, hb⟩; have HB := Aside0.mk hb; clear hb) | (refine (impl_PolygonOk.calls k A1 c1 l1 false _ (Kd.C_below HR1.out HB.out) HC1.out HP1.out).mono ?_; rintro e w3 ⟨rfl, hb⟩; have HB2 := Aside0.mk (below_step HB.out hb); clear HB; have HB := HB2; clear HB2 hb)))
   go_ret
   exact ⟨rfl, HB.out⟩
  | true =>
   rw [if_pos rfl] at h; obtain ⟨a, ha, h⟩ := Option.bind_eq_some_iff.mp h; obtain ⟨b, hb, h⟩ := Option.bind_eq_some_iff.mp h; obtain ⟨tb, htb, h⟩ := Option.bind_eq_some_iff.mp h; have HA := Aside0.mk ha; have HBB := Aside0.mk hb; have HT := Aside0.mk htb; have H := Aside0.mk h; have hl4 : b.length = 4 ∧ tb.length = 4 := by
    unfold impl_turned.f at htb
    by_cases h4 : b.length = 4
    ·rw [if_pos h4] at htb
     obtain rfl := Option.some.inj htb; exact ⟨h4, rfl⟩
    ·rw [if_neg h4] at htb; cases htb
   have HL := Aside0.mk hl4; clear ha hb htb h hl4; go_enter Try.func46, Try.ntmps46
   go_wp2_with (first
    | (go_at_call 40; first | (with_reducible refine (impl_PolygonOk.calls k A0 c0 l0 true w HR0.out HC0.out HP0.out).mono ?_; rintro e w2 ⟨rfl, hb⟩; have HB := Aside0.mk hb; clear hb) | (refine (impl_PolygonOk.calls k A1 c1 l1 true _ (Kd.C_below HR1.out HB.out) HC1.out HP1.out).mono ?_; rintro e w3 ⟨rfl, hb⟩; have HB2 := Aside0.mk (below_step HB.out hb); clear HB; have HB := HB2; clear HB2 hb))
    | (go_at_call 75; first | (with_reducible refine (impl_straightened.calls k A0 c0 l0 a _ (Kd.C_below HR0.out HB.out) HC0.out HA.out).mono ?_; rintro e w4 ⟨va, rfl, ho, hb⟩; have HOA := Aside0.mk (Kd.R_lower ho (below_size HB.out)); have HB2 := Aside0.mk (below_step HB.out hb); clear HB; have HB := HB2; clear HB2 hb ho) | (refine (impl_straightened.calls k A1 c1 l1 b _ (Kd.C_below HR1.out HB.out) HC1.out HBB.out).mono ?_; rintro e w5 ⟨vb, rfl, ho, hb⟩; have HOB := Aside0.mk ho; have HB2 := Aside0.mk (below_step HB.out hb); clear HB; have HB := HB2; clear HB2; have HOA2 := Aside0.mk (Kd.R_below HOA.out hb); clear HOA; have HOA := HOA2; clear HOA2 hb ho; obtain ⟨Aa, ca, rfl⟩ := Kd.R_slice HOA.out; have HCA := Aside0.mk (Kd.R_reads' HOA.out).2.1; obtain ⟨gb, cb, rfl, gbb, gbl, cbl, HGB⟩ := Kd.R_form HOB.out (by have := HL.out; omega); clear gbb gbl HGB))
    | (go_at_call 76; (with_reducible refine (impl_turned.calls (some ⟨gb, 0, none⟩) cb b tb _ (Kd.R_reads' HOB.out).2.2 (Kd.R_reads' HOB.out).2.1 HT.out).mono ?_); rintro e w6 ⟨vt, rfl, ho, hb⟩; have HOT := Aside0.mk ho; have HB2 := Aside0.mk (below_step HB.out hb); clear HB; have HB := HB2; clear HB2; have HOA2 := Aside0.mk (Kd.R_below HOA.out hb); clear HOA; have HOA := HOA2; clear HOA2; have HOB2 := Aside0.mk (Kd.R_below HOB.out hb); clear HOB; have HOB := HOB2; clear HOB2 hb ho; obtain ⟨gt, ct, rfl, gtb, gtl, ctl, HGT⟩ := Kd.R_form HOT.out (by have := HL.out; omega); clear gtb gtl HGT))
   have HW0 : Aside0 (SpW (w6.alloc (.cells #[.slice (some ⟨gb, 0, none⟩) b.length cb, .slice (some ⟨gt, 0, none⟩) tb.length ct] 33)) w6.heap.size Aa a [b, tb]) :=
    ⟨sp_world (below_alloc (Below.refl w6.heap.size w6) _) (sp_cells w6 _ _).1 (sp_cells w6 _ _).2 HL.out.1 HL.out.2 (Kd.R_reads' HOA.out).2.2 (Kd.R_reads' HOB.out).2.2 (Kd.R_reads' HOT.out).2.2 (Kd.R_reads' HOB.out).2.1 (Kd.R_reads' HOT.out).2.1⟩
   have HBW := Aside0.mk (below_step HB.out (below_alloc (Below.refl w6.heap.size w6) (.cells #[.slice (some ⟨gb, 0, none⟩) b.length cb, .slice (some ⟨gt, 0, none⟩) tb.length ct] 33))); clear HB HOA HOB HOT; generalize w6.alloc (.cells #[.slice (some ⟨gb, 0, none⟩) b.length cb, .slice (some ⟨gt, 0, none⟩) tb.length ct] 33) = W0 at HW0 HBW ⊢
   generalize w6.heap.size = G at HW0 ⊢
   generalize [b, tb] = rows at H HW0
   have HB := Aside0.mk (Below.refl W0.heap.size W0); go_loopg [27] 3 (fun q v27 w' => ∃ i : Nat, v27 = .int .i64 (i : Int) ∧ Aside0 (i + q = 3 ∧ i ≤ 2) ∧ Aside0 (spOut k a (rows.drop i) = some r) ∧ Aside0 (Below W0.heap.size W0 w'))
   case atStart => exact ⟨0, rfl, ⟨rfl, by omega⟩, H, HB⟩
   case round =>
    clear H HB; obtain ⟨i, rfl, HI, H, HB⟩ := hrel; rcases gk with _ | k1
    ·exact absurd HI.out (by omega)
    by_cases ci : i < 2
    rotate_left
    ·have hi2 : i = 2 := by have := HI.out; omega
     subst hi2
     have h2 := H.out; rw [List.drop_of_length_le (by rw [HW0.out.len]; exact Nat.le_refl _), spOut] at h2; obtain rfl := Option.some.inj h2; clear h2 H; go_wp2
     go_ret
     exact ⟨rfl, below_step HBW.out HB.out⟩
    ·obtain ⟨g, cc, hx, hcc, hlen, hC⟩ := HW0.out.row i ci
     have hdrop : rows.drop i = rows.getD i [] :: rows.drop (i + 1) := by
      rw [List.drop_eq_getElem_cons (by rw [HW0.out.len]; exact ci)]; congr 1
      rw [List.getD_eq_getElem?_getD, List.getElem?_eq_getElem (by rw [HW0.out.len]; exact ci)]; rfl
     have h2 := H.out; rw [hdrop, spOut] at h2; obtain ⟨x, hx1, hx2⟩ := Option.bind_eq_some_iff.mp h2; generalize rows.getD i [] = c at hlen hC hx1
     rw [hlen] at hx1; have HX1 := Aside0.mk hx1; have HX2 := Aside0.mk hx2; have HCC := Aside0.mk hcc; have HLC := Aside0.mk hlen; have HC := Aside0.mk hC; have hxr := (HB.out.cell (World.block_lt_of_cell? W0 _ hx)).trans hx; have ci0 : (0 ≤ (i : Int)) = True := eq_true (by omega); have ci1 : ((i : Int) < 2) = True := eq_true (by omega); have HCI := Aside0.mk ci; clear hdrop h2 H hx1 hx2 hcc hlen hC hx ci; go_wp2
     go_loopg [33] 5 (fun q v33 w' => ∃ j : Nat, v33 = .int .i64 (j : Int) ∧ Aside0 (j + q = 5 ∧ j ≤ 4) ∧ Aside0 (spRot k a c (4 - j) j = some x) ∧ Aside0 (Below W0.heap.size W0 w'))
     case atStart => exact ⟨0, rfl, ⟨rfl, by omega⟩, HX1, HB⟩
     case round =>
      clear HX1 HB; obtain ⟨j, rfl, HJ, HX1, HB⟩ := hrel; rcases gk with _ | k2
      ·exact absurd HJ.out (by omega)
      by_cases cj : j < 4
      rotate_left
      ·have hj2 : j = 4 := by have := HJ.out; omega
       subst hj2
       have h2 := HX1.out; rw [spRot] at h2; obtain rfl := Option.some.inj h2; clear h2 HX1; have e1 : wrap64 ((i : Int) + 1) = ((i + 1 : Nat) : Int) := by have := HCI.out; unfold wrap64; omega
       go_wp2
       go_roundg k1
       case measure => exact Nat.lt_succ_self _
       case rel => exact ⟨i + 1, congrArg _ e1, ⟨by have := HI.out; have := HCI.out; omega⟩, HX2, HB⟩
      ·have h2 := HX1.out
       rw [show 4 - j = (4 - (j + 1)) + 1 by omega, spRot] at h2; obtain ⟨q, hq, h2⟩ := Option.bind_eq_some_iff.mp h2; have HQ := Aside0.mk hq; have HX1 := Aside0.mk h2; have HCJ := Aside0.mk cj; have e2 : wrap64 ((j : Int) + 1) = ((j + 1 : Nat) : Int) := by unfold wrap64; omega
       have cj0 : (0 ≤ (j : Int)) = True := eq_true (by omega); have cj1 : ((j : Int) < 4) = True := eq_true (by omega); have cj2 : ((j : Int) ≤ 4) = True := eq_true (by omega); have cj3 : (j ≤ 4) = True := eq_true (by omega); have cj4 : (cc = j) = False := eq_false (by have := HCC.out; omega); have cj5 : (j ≤ cc) = True := eq_true (by have := HCC.out; omega); have cj6 : ((j : Int) ≤ (cc : Int)) = True := eq_true (by have := HCC.out; omega); clear hq h2 cj; go_wp2
       refine start_ (n := 10) (S := fun w' => Below W0.heap.size W0 w') (ds := []) (qD_ 10 0) (by kernel_rfl) rfl rfl (below_drew1 HB.out) (fun hHeld => ?_); refine with_tabW impl_SamePolygon.tab10 impl_SamePolygon.bits10 (fun HT_ HW_ => ?_); clear HB; generalize wr.drew = w20 at hHeld ⊢
       iterate 7 (first | (refine hz_ HT_ ?zy ?zp ?_ (v := ?_) (a' := ?_); (case zy => intro w'; go_simp; with_reducible rfl); (case zp => simp only [Act.put, List.setIfInBounds_toArray, List.set_cons_zero, List.set_cons_succ, i64_w, i32_w]; rfl)))
       have HB := Aside0.mk hHeld; have hcs := sp_cells w20 (.slice (some ⟨g, j * 2, none⟩) (4 - j) (cc - j)) (.slice (some ⟨g, 0, none⟩) j cc); have hb7 := below_alloc (Below.refl w20.heap.size w20) (.cells #[.slice (some ⟨g, j * 2, none⟩) (4 - j) (cc - j), .slice (some ⟨g, 0, none⟩) j cc] 33); refine one_ (i := 7) (N := some 43) (qD_ 10 8) rfl rfl (one_of HT_.out (by kernel_rfl)) (by decide) (fun K hK => ?_); refine event_step (w1 := w20.alloc (.cells #[.slice (some ⟨g, j * 2, none⟩) (4 - j) (cc - j), .slice (some ⟨g, 0, none⟩) j cc] 33)) (v := .slice (some ⟨w20.heap.size, 0, none⟩) 2 2) (by rfl) (by first | (go_simp; done) | (go_simp; rfl)) ?_; refine hK.out _ _ (below_step HB.out hb7) (fun hHeld => ?_); clear hK K; refine norm_ (a' := ?_) ?_ ?_; rotate_left
       ·show Act.put _ (some 43) _ = _
        simp only [Act.put, List.setIfInBounds_toArray, List.set_cons_zero, List.set_cons_succ, i64_w, i32_w]; rfl
       generalize w20.alloc (.cells #[.slice (some ⟨g, j * 2, none⟩) (4 - j) (cc - j), .slice (some ⟨g, 0, none⟩) j cc] 33) = w21 at hHeld hcs hb7 ⊢
       generalize w20.heap.size = gl at hcs ⊢
       have HB2 := Aside0.mk hHeld; have HCS := Aside0.mk hcs; clear HB hb7 hcs; refine one_ (i := 8) (N := some 44) (qD_ 10 9) rfl rfl (one_of HT_.out (by kernel_rfl)) (by decide) (fun K hK => ?_); refine goes_ Try.func78 (by kernel_rfl) rfl #[.slice (some ⟨gl, 0, none⟩) 2 2] (by rfl) rfl rfl (by (try simp only [List.map_toArray, List.map_cons, List.map_nil]); first | done | rfl) ?_; refine (sp_concat HLC.out HCJ.out HCC.out HCS.out.1 HCS.out.2 (Kd.C_below HC.out HB2.out)).mono ?_; rintro e w22 ⟨v6, rfl, ho, hb⟩
       have HO := Aside0.mk ho; have HB3 := Aside0.mk (below_step HB2.out hb); clear ho hb; obtain ⟨A6, c6, rfl⟩ := Kd.R_slice HO.out; refine ⟨_, rfl, ?_⟩; refine hK.out _ _ (HB3.out) (fun hHeld => ?_); clear hK K; refine norm_ (a' := ?_) ?_ ?_; rotate_left
       ·show Act.put _ (some 44) _ = _
        simp only [Act.put, List.setIfInBounds_toArray, List.set_cons_zero, List.set_cons_succ, i64_w, i32_w]; rfl
       clear hHeld; have hHeld := HB3.out; generalize c.drop j ++ c.take j = cj at HO HQ ⊢
       refine one_ (i := 9) (N := some 45) (qD_ 10 10) rfl rfl (one_of HT_.out (by kernel_rfl)) (by decide) (fun K hK => ?_); refine goes_ Try.func77 (by kernel_rfl) rfl #[.slice Aa a.length ca, .slice A6 cj.length c6] (by rfl) rfl rfl (by (try simp only [List.map_toArray, List.map_cons, List.map_nil]); first | done | rfl) ?_; refine (impl_Point_77.calls k Aa ca a A6 c6 cj q _ (Kd.C_below HW0.out.ra HB3.out) HCA.out (Kd.R_reads' HO.out).2.2 (Kd.R_reads' HO.out).2.1 HQ.out).mono ?_; rintro e w23 ⟨rfl, hd⟩
       have HB4 := Aside0.mk (below_step HB3.out hd.below); clear hd; refine ⟨_, rfl, ?_⟩; refine hK.out _ _ (HB4.out) (fun hHeld => ?_); clear hK K; refine norm_ (a' := ?_) ?_ ?_; rotate_left
       ·show Act.put _ (some 45) _ = _
        simp only [Act.put, List.setIfInBounds_toArray, List.set_cons_zero, List.set_cons_succ, i64_w, i32_w]; rfl
       refine done_ (done_of HT_.out (by kernel_rfl)) ?_; clear hHeld HB2 HCS HO; cases q with
       | true =>
        have h3 := HX1.out; rw [if_pos rfl] at h3; obtain rfl := Option.some.inj h3; have h4 := HX2.out; rw [if_pos rfl] at h4; obtain rfl := Option.some.inj h4; clear h3 h4 HX1; go_wp2
        go_ret
        exact ⟨rfl, below_step HBW.out HB4.out⟩
       | false =>
        have HX := Aside0.mk (show spRot k a c (4 - (j + 1)) (j + 1) = some x from by have h3 := HX1.out; rw [if_neg (by simp)] at h3; exact h3); clear HX1; go_wp2
        go_roundg k2
        case measure => exact Nat.lt_succ_self _
        case rel => exact ⟨j + 1, congrArg _ e2, ⟨by have := HJ.out; have := HCJ.out; omega⟩, HX, HB4⟩
/-! EqualCut: the area of a triangle, as the closure reckons it -/
def ecArea (l : List S25) (t : List Int) : Option Int := if itOkB (l.length : Int) t = true then (impl_cross.f (rd_T25 l (rd t 0)).f0 (rd_T25 l (rd t 0)).f1 (rd_T25 l (rd t 1)).f0 (rd_T25 l (rd t 1)).f1 (rd_T25 l (rd t 2)).f0 (rd_T25 l (rd t 2)).f1).bind impl_size.f else none
def ec47.qB (n m : Nat) : Array Bool := ((List.range n).map fun j => m.testBit j).toArray
def ec47.T1 : Bool × List (List Nat × List Nat) := (true, [([], []), ([], []), ([1], [1]), ([2], [2]), ([0, 3], [0, 3]), ([4], [4]), ([], []), ([], []), ([7], [7]), ([8], [8]), ([6, 9], [6, 9]), ([10], [10]), ([], []), ([], []), ([13], [13]), ([14], [14]), ([12, 15], [12, 15]), ([16], [16]), ([5, 11, 17], [5, 11, 17]), ([18, 18], [18]), ([19, 19, 0, 1, 2, 3, 4, 5, 6, 7, 8, 9, 10, 11, 12, 13, 14, 15, 16, 17, 18, 19], [19])])
def ec47.B1 : List Nat := [0, 0, 2, 6, 15, 31, 0, 0, 128, 384, 960, 1984, 0, 0, 8192, 24576, 61440, 126976, 262143, 524287, 1048575]
theorem ec47.tab1 : rtab .any (opsOf Try.f47 1) = ec47.T1 := by kernel_rfl
theorem ec47.bits1 : waitsOk ec47.T1.2 ec47.B1 = true := by kernel_rfl
set_option maxHeartbeats 8000000 in
set_option maxRecDepth 100000 in
theorem ec_area (l : List S25) (t : List Int) (s : Int) (h : ecArea l t = some s) (W : World) (b : Nat) (A1 : Option Addr) (c1 : Nat) (hb : W.cell? ⟨b, 0, none⟩ = some (.slice A1 l.length c1)) (hl : Kd.C k25 W A1 l.length l) (At : Option Addr) (ct : Nat) (ht : Kd.C (Kd.int .i64) W At t.length t) :
  Calls Try.prog 47 (#[.slice At t.length ct] ++ #[.pointer (some ⟨b, 0, none⟩)]) W fun e w' => e = .returned (.int .i64 s) ∧ Below W.heap.size W w' := by
 have hu := Try.underlying25
 have HB := Aside0.mk (Below.refl W.heap.size W)
 unfold ecArea at h
 by_cases ok : itOkB (l.length : Int) t = true
 rotate_left
 ·rw [if_neg ok] at h; cases h
 rw [if_pos ok] at h
 obtain ⟨c, hc, hs⟩ := Option.bind_eq_some_iff.mp h
 obtain ⟨e1, e2, e3, e4, e5⟩ := of_decide_eq_true ok
 obtain ⟨ad, ea, ha0⟩ := Kd.at_int ht 0 (by omega) (by omega)
 obtain ⟨ad2, eb, ha1⟩ := Kd.at_int ht 1 (by omega) (by omega)
 obtain ⟨ad3, ec, ha2⟩ := Kd.at_int ht 2 (by omega) (by omega)
 obtain rfl : ad = ad2 := by rw [ea] at eb; injection eb
 obtain rfl : ad = ad3 := by rw [ea] at ec; injection ec
 subst ea
 clear eb ec ht h ok
 (try rw [show ((0 : Int)).toNat = 0 from rfl] at ha0)
 (try rw [Addr.add_zero'] at ha0)
 (try simp only [show (1 : Int).toNat = 1 from rfl, Nat.reduceMul, Nat.reduceEqDiff, Go.Addr.add, ↓reduceIte] at ha1)
 (try simp only [show (2 : Int).toNat = 2 from rfl, Nat.reduceMul, Nat.reduceEqDiff, Go.Addr.add, ↓reduceIte] at ha2)
 obtain ⟨adp, ep, hp0, hp1⟩ := at_T25 hl (rd t 0) (by omega) (by omega)
 obtain ⟨adp2, ep2, hq0, hq1⟩ := at_T25 hl (rd t 1) (by omega) (by omega)
 obtain ⟨adp3, ep3, hs0, hs1⟩ := at_T25 hl (rd t 2) (by omega) (by omega)
 obtain rfl : adp = adp2 := by rw [ep] at ep2; injection ep2
 obtain rfl : adp = adp3 := by rw [ep] at ep3; injection ep3
 subst ep
 clear ep2 ep3 hl
 have f1 : ((t.length : Int)) = 3 := e1
 have q1 : (0 < t.length) = True := eq_true (by omega)
 have q2 : (1 < t.length) = True := eq_true (by omega)
 have q3 : (2 < t.length) = True := eq_true (by omega)
 have q4 : decide ((0 : Int) < (t.length : Int)) = true := decide_eq_true (by omega)
 have q5 : decide ((1 : Int) < (t.length : Int)) = true := decide_eq_true (by omega)
 have q6 : decide ((2 : Int) < (t.length : Int)) = true := decide_eq_true (by omega)
 have q7 : ((1 : Int) < (t.length : Int)) = True := eq_true (by omega)
 have q8 : ((2 : Int) < (t.length : Int)) = True := eq_true (by omega)
 have q9 : ((0 : Int) < (t.length : Int)) = True := eq_true (by omega)
 have r1 : (0 ≤ rd t 0) = True := eq_true (by omega)
 have r2 : (0 ≤ rd t 1) = True := eq_true (by omega)
 have r3 : (0 ≤ rd t 2) = True := eq_true (by omega)
 have r4 : (rd t 0 < (l.length : Int)) = True := eq_true (by omega)
 have r5 : (rd t 1 < (l.length : Int)) = True := eq_true (by omega)
 have r6 : (rd t 2 < (l.length : Int)) = True := eq_true (by omega)
 have r7 : decide (0 ≤ rd t 0) = true := decide_eq_true (by omega)
 have r8 : decide (0 ≤ rd t 1) = true := decide_eq_true (by omega)
 have r9 : decide (0 ≤ rd t 2) = true := decide_eq_true (by omega)
 have s1 : decide (rd t 0 < (l.length : Int)) = true := decide_eq_true (by omega)
 have s2 : decide (rd t 1 < (l.length : Int)) = true := decide_eq_true (by omega)
 have s3 : decide (rd t 2 < (l.length : Int)) = true := decide_eq_true (by omega)
 have HC := Aside0.mk hc
 have HS := Aside0.mk hs
 clear e1 e2 e3 e4 e5 f1 hc hs
 generalize rd t 0 = ta at *
 generalize rd t 1 = tb at *
 generalize rd t 2 = tc at *
 generalize rd_T25 l ta = pa at hp0 hp1 HC
 generalize rd_T25 l tb = pb at hq0 hq1 HC
 generalize rd_T25 l tc = pc at hs0 hs1 HC
 go_enter Try.func47, Try.ntmps47
 go_wp2
 refine start_ (n := 21) (S := fun w' => Below W.heap.size W w') (ds := []) (qD_ 21 0) (by kernel_rfl) rfl rfl (below_drew1 HB.out) (fun hHeld => ?_); refine with_tabW ec47.tab1 ec47.bits1 (fun HT_ HW_ => ?_)
 clear HB
 iterate 18 (first | (refine hz_ HT_ ?zy ?zp ?_ (v := ?_) (a' := ?_); (case zy => intro w'; go_simp; with_reducible rfl); (case zp => simp only [Act.put, List.setIfInBounds_toArray, List.set_cons_zero, List.set_cons_succ, i64_w, i32_w]; rfl)) | (refine ht_ HT_ HW_ hHeld ?zy ?zp ?_ (v := ?_) (a' := ?_); (case zy => rintro w' s_; have t0_ := it_cell s_ ha0; have t1_ := it_cell s_ ha1; have t2_ := it_cell s_ ha2; have t3_ := it_cell s_ hp0; have t4_ := it_cell s_ hp1; have t5_ := it_cell s_ hq0; have t6_ := it_cell s_ hq1; have t7_ := it_cell s_ hs0; have t8_ := it_cell s_ hs1; have t9_ := it_cell s_ hb; go_simp; with_reducible rfl); (case zp => simp only [Act.put, List.setIfInBounds_toArray, List.set_cons_zero, List.set_cons_succ, i64_w, i32_w]; rfl)))
 refine one_ (i := 18) (N := some 22) (qD_ 21 19) rfl rfl (one_of HT_.out (by kernel_rfl)) (by decide) (fun K hK => ?_)
 refine goes_ Try.func38 (by kernel_rfl) rfl #[.agg #[.int .i64 pa.f0, .int .i64 pa.f1], .agg #[.int .i64 pb.f0, .int .i64 pb.f1], .agg #[.int .i64 pc.f0, .int .i64 pc.f1]] (by rfl) rfl rfl (by (try simp only [List.map_toArray, List.map_cons, List.map_nil]); first | done | rfl) ?_
 with_reducible refine (impl_cross.calls pa.f0 pa.f1 pb.f0 pb.f1 pc.f0 pc.f1 c _ HC.out).mono ?_
 rintro e w21 ⟨rfl, hb1⟩
 refine ⟨_, rfl, ?_⟩
 refine hK.out _ _ (below_step hHeld hb1) (fun hHeld => ?_)
 clear hK K
 refine norm_ (a' := ?_) ?_ ?_
 rotate_left
 ·show Act.put _ (some 22) _ = _
  simp only [Act.put, List.setIfInBounds_toArray, List.set_cons_zero, List.set_cons_succ, i64_w, i32_w]; rfl
 refine one_ (i := 19) (N := some 23) (qD_ 21 20) rfl rfl (one_of HT_.out (by kernel_rfl)) (by decide) (fun K hK => ?_)
 refine goes_ Try.func48 (by kernel_rfl) rfl #[.int .i64 c] (by rfl) rfl rfl (by (try simp only [List.map_toArray, List.map_cons, List.map_nil]); first | done | rfl) ?_
 with_reducible refine (impl_size.calls c s _ HS.out).mono ?_
 rintro e w22 ⟨rfl, hb2⟩
 refine ⟨_, rfl, ?_⟩
 refine hK.out _ _ (below_step hHeld hb2) (fun hHeld => ?_)
 clear hK K
 refine norm_ (a' := ?_) ?_ ?_
 rotate_left
 ·show Act.put _ (some 23) _ = _
  simp only [Act.put, List.setIfInBounds_toArray, List.set_cons_zero, List.set_cons_succ, i64_w, i32_w]; rfl
 iterate 1 (first | (refine hz_ HT_ ?zy ?zp ?_ (v := ?_) (a' := ?_); (case zy => intro w'; go_simp; with_reducible rfl); (case zp => simp only [Act.put, List.setIfInBounds_toArray, List.set_cons_zero, List.set_cons_succ, i64_w, i32_w]; rfl)))
 refine done_ (done_of HT_.out (by kernel_rfl)) ?_
 go_wp2
 go_ret
 exact ⟨rfl, hHeld⟩
theorem ecV_ {P : Program} {ops : Array Oper} {Q : Exit → Act → World → Prop} {oi : Oper} {N : Option Tmp} {a : Act} {w : World} {K : Act → World → Prop} (g : Nat) (lb : Array Value) (eg : ∀ args w, (callFunc g args).run P w = .ok (.enter g args) w) {t : Tmp} {as_ : Array Operand} {ts : Array TypeId} (args : Array Value)
  (hw : Region.wanted oi (yielded ops a.tmps) = true) (hN : oi.dst = N) (hop : oi.op = .call { callee := .value (.tmp t), args := as_, argTypes := ts }) (hv : a.eval (.tmp t) = .func (.func g) #[] lb) (hargs : as_.map a.eval = args)
  (h : Calls P g (args ++ lb) w fun e w' => ∃ v, e = .returned v ∧ K (a.put N v) w') : if Region.wanted oi (yielded ops a.tmps) = true then Oper.wp P oi a w K Q else K (a.put N undef) w := by
 refine call_ g (args ++ lb) hw hN ?_ h
 unfold execOp
 simp [hop, resolve, Deferred.ofValue, invoke, hargs, hv, eg]
def ec50.qB (n m : Nat) : Array Bool := ((List.range n).map fun j => m.testBit j).toArray
def ec50.T1 : Bool × List (List Nat × List Nat) := (true, [([], []), ([], []), ([0, 1], [0, 1]), ([], []), ([], []), ([4], [4]), ([5], [5]), ([3, 6, 2], [3, 6]), ([2, 7], [2, 7]), ([8, 7, 0, 1, 2, 3, 4, 5, 6, 7, 8], [8])])
def ec50.B1 : List Nat := [0, 0, 3, 0, 0, 16, 48, 127, 255, 511]
theorem ec50.tab1 : rtab .any (opsOf Try.f50 1) = ec50.T1 := by kernel_rfl
theorem ec50.bits1 : waitsOk ec50.T1.2 ec50.B1 = true := by kernel_rfl
/-- What the closures see: their variables. -/
structure EcW (W : World) (bf bp bl : Nat) (A1 A2 : Option Addr) (c1 c2 : Nat) (l : List S25) (T : List (List Int)) : Prop where
 f : W.cell? ⟨bf, 0, none⟩ = some (.func (.func 47) #[] #[.pointer (some ⟨bp, 0, none⟩)])
 p : W.cell? ⟨bp, 0, none⟩ = some (.slice A1 l.length c1)
 t : W.cell? ⟨bl, 0, none⟩ = some (.slice A2 T.length c2)
 rl : Kd.C k25 W A1 l.length l
 rt : Kd.C (Kd.slice 3 (Kd.int .i64)) W A2 T.length T
theorem EcW.below {W W' : World} {bf bp bl : Nat} {A1 A2 : Option Addr} {c1 c2 : Nat} {l : List S25} {T : List (List Int)} (h : EcW W bf bp bl A1 A2 c1 c2 l T) (hb : Below W.heap.size W W') : EcW W' bf bp bl A1 A2 c1 c2 l T :=
 ⟨it_cell hb h.f, it_cell hb h.p, it_cell hb h.t, Kd.C_below h.rl hb, Kd.C_below h.rt hb⟩
set_option maxHeartbeats 8000000 in
set_option maxRecDepth 100000 in
theorem ec_neq {W : World} {bf bp bl : Nat} {A1 A2 : Option Addr} {c1 c2 : Nat} {l : List S25} {T : List (List Int)} (hW : EcW W bf bp bl A1 A2 c1 c2 l T) (hT : 0 < T.length) (t : List Int) (s s0 : Int) (h : ecArea l t = some s) (h0 : ecArea l (rd_L3 T 0) = some s0) (At : Option Addr) (ct : Nat) (ht : Kd.C (Kd.int .i64) W At t.length t) :
  Calls Try.prog 50 (#[.slice At t.length ct] ++ #[.pointer (some ⟨bf, 0, none⟩), .pointer (some ⟨bl, 0, none⟩)]) W fun e w' => e = .returned (.bool (s != s0)) ∧ Below W.heap.size W w' := by
 have HB := Aside0.mk (Below.refl W.heap.size W)
 have HW := Aside0.mk hW
 have HH := Aside0.mk h
 have HH0 := Aside0.mk h0
 have HT := Aside0.mk ht
 have hf := hW.f
 have htc := hW.t
 obtain ⟨adr, Ar, cr, er, hx, hlr, hi⟩ := at_L3 hW.rt 0 (by omega) (by omega)
 subst er
 (try rw [show ((0 : Int)).toNat = 0 from rfl] at hx)
 (try rw [Addr.add_zero'] at hx)
 generalize rd_L3 T 0 = t0 at hx hlr hi HH0
 have HI := Aside0.mk hi
 have d0 : ((0 : Int) < (T.length : Int)) = True := eq_true (by omega)
 have d1 : decide ((0 : Int) < (T.length : Int)) = true := decide_eq_true (by omega)
 have d2 : (0 < T.length) = True := eq_true hT
 clear h h0 ht hi hW
 go_enter Try.func50, Try.ntmps50
 go_wp2
 refine start_ (n := 10) (S := fun w' => Below W.heap.size W w') (ds := []) (qE_ 10 impl_EqualCut.od0 0) (by kernel_rfl) rfl rfl (below_drew1 HB.out) (fun hHeld => ?_); refine with_tabW ec50.tab1 ec50.bits1 (fun HT_ HW_ => ?_)
 clear HB
 iterate 6 (first | (refine gz_ HT_ ?zy ?zp ?_ (v := ?_) (a' := ?_); (case zy => intro w'; go_simp; with_reducible rfl); (case zp => simp only [Act.put, List.setIfInBounds_toArray, List.set_cons_zero, List.set_cons_succ, i64_w, i32_w]; rfl)) | (refine gt_ HT_ HW_ hHeld ?zy ?zp ?_ (v := ?_) (a' := ?_); (case zy => rintro w' s_; have t0_ := it_cell s_ hf; have t1_ := it_cell s_ htc; have t2_ := it_cell s_ hx; go_simp; with_reducible rfl); (case zp => simp only [Act.put, List.setIfInBounds_toArray, List.set_cons_zero, List.set_cons_succ, i64_w, i32_w]; rfl)))
 refine one_ (i := 2) (N := some 7) (qE_ 10 impl_EqualCut.od0 7) rfl rfl (one_of HT_.out (by kernel_rfl)) (by decide) (fun K hK => ?_)
 refine ecV_ 47 #[.pointer (some ⟨bp, 0, none⟩)] (enters_of Try.func47 (by kernel_rfl) rfl) #[.slice At t.length ct] (by rfl) rfl rfl (by rfl) (by (try simp only [List.map_toArray, List.map_cons, List.map_nil]); first | done | rfl) ?_
 refine (ec_area l t s HH.out _ bp A1 c1 (it_cell hHeld HW.out.p) (Kd.C_below HW.out.rl hHeld) At ct (Kd.C_below HT.out hHeld)).mono ?_
 rintro e w21 ⟨rfl, hb1⟩
 refine ⟨_, rfl, ?_⟩
 refine hK.out _ _ (below_step hHeld hb1) (fun hHeld => ?_)
 clear hK K
 refine norm_ (a' := ?_) ?_ ?_
 rotate_left
 ·show Act.put _ (some 7) _ = _
  simp only [Act.put, List.setIfInBounds_toArray, List.set_cons_zero, List.set_cons_succ, i64_w, i32_w]; rfl
 refine one_ (i := 7) (N := some 12) (qE_ 10 impl_EqualCut.od0 8) rfl rfl (one_of HT_.out (by kernel_rfl)) (by decide) (fun K hK => ?_)
 refine ecV_ 47 #[.pointer (some ⟨bp, 0, none⟩)] (enters_of Try.func47 (by kernel_rfl) rfl) #[.slice Ar t0.length cr] (by rfl) rfl rfl (by rfl) (by (try simp only [List.map_toArray, List.map_cons, List.map_nil]); first | done | rfl) ?_
 refine (ec_area l t0 s0 HH0.out _ bp A1 c1 (it_cell hHeld HW.out.p) (Kd.C_below HW.out.rl hHeld) Ar cr (Kd.C_below HI.out hHeld)).mono ?_
 rintro e w21 ⟨rfl, hb1⟩
 refine ⟨_, rfl, ?_⟩
 refine hK.out _ _ (below_step hHeld hb1) (fun hHeld => ?_)
 clear hK K
 refine norm_ (a' := ?_) ?_ ?_
 rotate_left
 ·show Act.put _ (some 12) _ = _
  simp only [Act.put, List.setIfInBounds_toArray, List.set_cons_zero, List.set_cons_succ, i64_w, i32_w]; rfl
 iterate 2 (refine gz_ HT_ ?zy ?zp ?_ (v := ?_) (a' := ?_); (case zy => intro w'; go_simp; with_reducible rfl); (case zp => simp only [Act.put, List.setIfInBounds_toArray, List.set_cons_zero, List.set_cons_succ, i64_w, i32_w]; rfl))
 refine done_ (done_of HT_.out (by kernel_rfl)) ?_
 go_wp2
 go_ret
 exact ⟨rfl, hHeld⟩
def ecAreas (l : List S25) : List (List Int) → Option (List Int)
 | [] => some []
 | t :: ts => (ecArea l t).bind fun s => (ecAreas l ts).bind fun ss => some (s :: ss)
def impl_EqualCut.f (k : Nat) (d : Int) (l : List S25) (T : List (List Int)) : Option Bool :=
 (impl_IsTriangulation.f k l T).bind fun b => if b = true then (impl_RectangleOf.f d d).bind fun q => (impl_SamePolygon.f k l q).bind fun b2 => if b2 = true then (ecAreas l T).bind fun ss => some (ss.all fun s => s == ss.headD 0) else some false else some false
theorem impl_EqualCut.mono : ∀ d l T k, LeO (impl_EqualCut.f k d l T) (impl_EqualCut.f (k + 1) d l T) := fun d l T k =>
 LeO.bind (impl_IsTriangulation.mono _ _ k) (fun _ => LeO.ite (LeO.bind (LeO.refl _) (fun _ => LeO.bind (impl_SamePolygon.mono _ _ k) (fun _ => LeO.refl _))) (LeO.refl _))
theorem ecAreas_get {l : List S25} : ∀ {T : List (List Int)} {ss : List Int}, ecAreas l T = some ss → ss.length = T.length ∧ ∀ j (h : j < T.length), ecArea l T[j] = some (ss.getD j 0)
 | [], ss, h => by
  obtain rfl := Option.some.inj h; exact ⟨rfl, fun j h => absurd h (by simp)⟩
 | t :: ts, ss, h => by
  obtain ⟨s, h1, h⟩ := Option.bind_eq_some_iff.mp h; obtain ⟨ss', h2, h⟩ := Option.bind_eq_some_iff.mp h; obtain rfl := Option.some.inj h; obtain ⟨h3, h4⟩ := ecAreas_get h2; refine ⟨by simp [h3], fun j hj => ?_⟩; cases j with
  | zero => exact h1
  | succ j => exact h4 j (by simpa using hj)
set_option maxHeartbeats 4000000 in
theorem ec_contains {W : World} {bf bp bl : Nat} {A1 A2 : Option Addr} {c1 c2 : Nat} {l : List S25} {T : List (List Int)} (hW : EcW W bf bp bl A1 A2 c1 c2 l T) (ss : List Int) (hs : ecAreas l T = some ss) :
  Calls Try.prog 49 #[.slice A2 T.length c2, .func (.func 50) #[] #[.pointer (some ⟨bf, 0, none⟩), .pointer (some ⟨bl, 0, none⟩)]] W fun e w' => e = .returned (.bool (!(ss.all fun s => s == ss.headD 0))) ∧ Below W.heap.size W w' := by
 obtain ⟨hl, hg⟩ := ecAreas_get hs
 obtain ⟨vs, hv, hr, hrow⟩ := Hof.reads_rows hW.rt
 have e3 : ((ss.map fun s => s != ss.headD 0).any id) = !(ss.all fun s => s == ss.headD 0) := by
  simp [List.any_map, Function.comp_def, List.not_all_eq_any_not, bne]
 rw [← e3]
 have := Hof.ContainsFunc_row 50 #[.pointer (some ⟨bf, 0, none⟩), .pointer (some ⟨bl, 0, none⟩)] (enters_of Try.func50 (by kernel_rfl) rfl) A2 c2 vs (ss.map fun s => s != ss.headD 0) W (by simp [hv, hl]) hr ?_
 ·rwa [hv] at this
 ·intro W1 j hj hb1
  rw [hv] at hj; obtain ⟨A', c', e1, h1, h2⟩ := hrow j hj; have hT : 0 < T.length := by omega
  have e2 : (ss.map fun s => s != ss.headD 0).getD j false = (ss.getD j 0 != ss.headD 0) := by
   have : j < ss.length := by omega
   simp [List.getD_eq_getElem?_getD, this]
  have h0 : ecArea l (rd_L3 T 0) = some (ss.headD 0) := by
   have := hg 0 hT; rw [show ss.getD 0 0 = ss.headD 0 from by cases ss <;> rfl] at this; rw [← this]; congr 1
   simp [rd_L3, List.getD_eq_getElem?_getD, hT]
  rw [e1, e2]; exact ec_neq (hW.below hb1) hT T[j] _ _ (hg j hj) h0 A' c' (Kd.C_below h2 hb1)
def ec18.qB (n m : Nat) : Array Bool := ((List.range n).map fun j => m.testBit j).toArray
def ec18.T1 : Bool × List (List Nat × List Nat) := (true, [([], []), ([], []), ([0, 1], [0, 1]), ([2], [2]), ([3, 2], [3]), ([4], [4]), ([4], [4]), ([4], [4]), ([6, 7, 4, 4], [4, 6, 7]), ([5, 8, 8, 4], [4, 5, 8]), ([9, 4], [4, 9]), ([4, 10], [4, 10])])
def ec18.B1 : List Nat := [0, 0, 3, 7, 15, 31, 31, 31, 223, 511, 1023, 2047]
theorem ec18.tab1 : rtab .any (opsOf Try.f18 1) = ec18.T1 := by kernel_rfl
theorem ec18.bits1 : waitsOk ec18.T1.2 ec18.B1 = true := by kernel_rfl
/-- The boxes of the two rows. -/
structure EcB (w W : World) (b1 b2 : Nat) (A1 A2 : Option Addr) (c1 c2 : Nat) (l : List S25) (T : List (List Int)) : Prop where
 b : Below w.heap.size w W
 p : W.cell? ⟨b1, 0, none⟩ = some (.slice A1 l.length c1)
 t : W.cell? ⟨b2, 0, none⟩ = some (.slice A2 T.length c2)
 rl : Kd.C k25 W A1 l.length l
 rt : Kd.C (Kd.slice 3 (Kd.int .i64)) W A2 T.length T
theorem EcB.below {w W W' : World} {b1 b2 : Nat} {A1 A2 : Option Addr} {c1 c2 : Nat} {l : List S25} {T : List (List Int)} (h : EcB w W b1 b2 A1 A2 c1 c2 l T) (hb : Below W.heap.size W W') : EcB w W' b1 b2 A1 A2 c1 c2 l T :=
 ⟨below_step h.b hb, it_cell hb h.p, it_cell hb h.t, Kd.C_below h.rl hb, Kd.C_below h.rt hb⟩
theorem ec_cell (w : World) (x : Value) (t : Nat) : (w.alloc (.cells #[x] t)).cell? ⟨w.heap.size, 0, none⟩ = some x := by
 have h : (w.alloc (.cells #[x] t)).heap[w.heap.size]? = some (.cells #[x] t (0, 0)) := by
  show (w.heap.push _)[w.heap.size]? = _
  simp
 unfold World.cell?
 rw [h]
 rfl
theorem EcB.start (w : World) {A1 A2 : Option Addr} {c1 c2 : Nat} {l : List S25} {T : List (List Int)} (h1 : Kd.C k25 w A1 l.length l) (h2 : Kd.C (Kd.slice 3 (Kd.int .i64)) w A2 T.length T) :
  EcB w ((w.alloc (.cells #[.slice A1 l.length c1] 33)).alloc (.cells #[.slice A2 T.length c2] 35)) w.heap.size (w.heap.size + 1) A1 A2 c1 c2 l T := by
 have hb1 := below_alloc (Below.refl w.heap.size w) (.cells #[.slice A1 l.length c1] 33)
 have hb2 := below_alloc (Below.refl (w.alloc (.cells #[.slice A1 l.length c1] 33)).heap.size (w.alloc (.cells #[.slice A1 l.length c1] 33))) (.cells #[.slice A2 T.length c2] 35)
 have hb := below_step hb1 hb2
 refine ⟨hb, it_cell hb2 (ec_cell w _ _), ?_, Kd.C_below h1 hb, Kd.C_below h2 hb⟩
 have := ec_cell (w.alloc (.cells #[.slice A1 l.length c1] 33)) (.slice A2 T.length c2) 35
 rw [show (w.alloc (.cells #[.slice A1 l.length c1] 33)).heap.size = w.heap.size + 1 from by show (w.heap.push _).size = _; simp] at this
 exact this
set_option maxHeartbeats 8000000 in
set_option maxRecDepth 100000 in
theorem impl_EqualCut.calls (k : Nat) (a0 : Int) (A1 : Option Addr) (c1 : Nat) (l1 : List S25) (A2 : Option Addr) (c2 : Nat) (l2 : List (List Int)) (r : Bool) (w : World) (hr1 : Kd.C k25 w A1 l1.length l1) (hc1 : l1.length ≤ c1) (hr2 : Kd.C (Kd.slice 3 (Kd.int .i64)) w A2 l2.length l2) (hc2 : l2.length ≤ c2) (h : impl_EqualCut.f k a0 l1 l2 = some r) :
  Calls Try.prog 18 #[.int .i64 a0, .slice A1 l1.length c1, .slice A2 l2.length c2] w fun e w' => e = .returned (.bool r) ∧ Below w.heap.size w w' := by
 have HR1 := Aside0.mk hr1
 have HC1 := Aside0.mk hc1
 have HR2 := Aside0.mk hr2
 have HC2 := Aside0.mk hc2
 clear hr1 hc1 hr2 hc2
 have HB := Aside0.mk (Below.refl w.heap.size w)
 unfold impl_EqualCut.f at h
 obtain ⟨b0, hb0, h⟩ := Option.bind_eq_some_iff.mp h
 have HP0 := Aside0.mk hb0
 have H := Aside0.mk h
 clear hb0 h
 go_enter Try.func18, Try.ntmps18
 go_wp2
 have HE := Aside0.mk (EcB.start (c1 := c1) (c2 := c2) w HR1.out HR2.out)
 clear HB
 generalize (w.alloc (.cells #[.slice A1 l1.length c1] 33)).alloc (.cells #[.slice A2 l2.length c2] 35) = W0 at HE ⊢
 generalize w.heap.size + 1 = b2 at HE ⊢
 generalize hb1 : w.heap.size = b1 at HE ⊢
 clear hb1
 have hx1 := HE.out.p
 have hx2 := HE.out.t
 cases b0 with
 | false =>
  obtain rfl := Option.some.inj (show some false = some r from by simpa using H.out); refine start_ (n := 12) (S := fun w' => Below W0.heap.size W0 w') (ds := []) (qD_ 12 0) (by kernel_rfl) rfl rfl (below_drew1 (Below.refl W0.heap.size W0)) (fun hHeld => ?_); refine with_tabW ec18.tab1 ec18.bits1 (fun HT_ HW_ => ?_); iterate 2 (first | (refine ht_ HT_ HW_ hHeld ?zy ?zp ?_ (v := ?_) (a' := ?_); (case zy => rintro w' s_; have t0_ := it_cell s_ hx1; have t1_ := it_cell s_ hx2; go_simp; with_reducible rfl); (case zp => simp only [Act.put, List.setIfInBounds_toArray, List.set_cons_zero, List.set_cons_succ, i64_w, i32_w]; rfl)))
  refine one_ (i := 2) (N := some 10) (qD_ 12 3) rfl rfl (one_of HT_.out (by kernel_rfl)) (by decide) (fun K hK => ?_); refine goes_ Try.func45 (by kernel_rfl) rfl #[.slice A1 l1.length c1, .slice A2 l2.length c2] (by rfl) rfl rfl (by (try simp only [List.map_toArray, List.map_cons, List.map_nil]); first | done | rfl) ?_; refine (impl_IsTriangulation.calls k A1 c1 l1 A2 c2 l2 false _ (Kd.C_below HE.out.rl hHeld) HC1.out (Kd.C_below HE.out.rt hHeld) HC2.out HP0.out).mono ?_; rintro e w21 ⟨rfl, hb1⟩
  refine ⟨_, rfl, ?_⟩; refine hK.out _ _ (below_step hHeld hb1) (fun hHeld => ?_); clear hK K; refine norm_ (a' := ?_) ?_ ?_; rotate_left
  ·show Act.put _ (some 10) _ = _
   simp only [Act.put, List.setIfInBounds_toArray, List.set_cons_zero, List.set_cons_succ, i64_w, i32_w]; rfl
  iterate 2 (first | (refine hz_ HT_ ?zy ?zp ?_ (v := ?_) (a' := ?_); (case zy => intro w'; go_simp; with_reducible rfl); (case zp => simp only [Act.put, List.setIfInBounds_toArray, List.set_cons_zero, List.set_cons_succ, i64_w, i32_w]; rfl)))
  iterate 6 (first | (refine hu_ HT_ ?zp ?_ (a' := ?_); (case zp => simp only [Act.put, List.setIfInBounds_toArray, List.set_cons_zero, List.set_cons_succ, i64_w, i32_w]; rfl)))
  iterate 1 (first | (refine hz_ HT_ ?zy ?zp ?_ (v := ?_) (a' := ?_); (case zy => intro w'; go_simp; with_reducible rfl); (case zp => simp only [Act.put, List.setIfInBounds_toArray, List.set_cons_zero, List.set_cons_succ, i64_w, i32_w]; rfl)))
  refine done_ (done_of HT_.out (by kernel_rfl)) ?_; go_wp2
  go_ret
  exact ⟨rfl, below_step HE.out.b hHeld⟩
 | true =>
  have h := H.out; rw [if_pos rfl] at h; obtain ⟨q, hq, h⟩ := Option.bind_eq_some_iff.mp h; obtain ⟨bb, hbb, h⟩ := Option.bind_eq_some_iff.mp h; have HQ := Aside0.mk hq; have HS := Aside0.mk hbb; have H2 := Aside0.mk h; clear hq hbb h H; refine start_ (n := 12) (S := fun w' => Below W0.heap.size W0 w') (ds := []) (qD_ 12 0) (by kernel_rfl) rfl rfl (below_drew1 (Below.refl W0.heap.size W0)) (fun hHeld => ?_); refine with_tabW ec18.tab1 ec18.bits1 (fun HT_ HW_ => ?_); iterate 2 (first | (refine ht_ HT_ HW_ hHeld ?zy ?zp ?_ (v := ?_) (a' := ?_); (case zy => rintro w' s_; have t0_ := it_cell s_ hx1; have t1_ := it_cell s_ hx2; go_simp; with_reducible rfl); (case zp => simp only [Act.put, List.setIfInBounds_toArray, List.set_cons_zero, List.set_cons_succ, i64_w, i32_w]; rfl)))
  refine one_ (i := 2) (N := some 10) (qD_ 12 3) rfl rfl (one_of HT_.out (by kernel_rfl)) (by decide) (fun K hK => ?_); refine goes_ Try.func45 (by kernel_rfl) rfl #[.slice A1 l1.length c1, .slice A2 l2.length c2] (by rfl) rfl rfl (by (try simp only [List.map_toArray, List.map_cons, List.map_nil]); first | done | rfl) ?_; refine (impl_IsTriangulation.calls k A1 c1 l1 A2 c2 l2 true _ (Kd.C_below HE.out.rl hHeld) HC1.out (Kd.C_below HE.out.rt hHeld) HC2.out HP0.out).mono ?_; rintro e w21 ⟨rfl, hb1⟩
  refine ⟨_, rfl, ?_⟩; refine hK.out _ _ (below_step hHeld hb1) (fun hHeld => ?_); clear hK K; refine norm_ (a' := ?_) ?_ ?_; rotate_left
  ·show Act.put _ (some 10) _ = _
   simp only [Act.put, List.setIfInBounds_toArray, List.set_cons_zero, List.set_cons_succ, i64_w, i32_w]; rfl
  iterate 2 (first | (refine hz_ HT_ ?zy ?zp ?_ (v := ?_) (a' := ?_); (case zy => intro w'; go_simp; with_reducible rfl); (case zp => simp only [Act.put, List.setIfInBounds_toArray, List.set_cons_zero, List.set_cons_succ, i64_w, i32_w]; rfl)))
  iterate 3 (first | (refine hz_ HT_ ?zy ?zp ?_ (v := ?_) (a' := ?_); (case zy => intro w'; go_simp; with_reducible rfl); (case zp => simp only [Act.put, List.setIfInBounds_toArray, List.set_cons_zero, List.set_cons_succ, i64_w, i32_w]; rfl)) | (refine ht_ HT_ HW_ hHeld ?zy ?zp ?_ (v := ?_) (a' := ?_); (case zy => rintro w' s_; have t0_ := it_cell s_ hx1; go_simp; with_reducible rfl); (case zp => simp only [Act.put, List.setIfInBounds_toArray, List.set_cons_zero, List.set_cons_succ, i64_w, i32_w]; rfl)))
  refine one_ (i := 8) (N := some 16) (qD_ 12 9) rfl rfl (one_of HT_.out (by kernel_rfl)) (by decide) (fun K hK => ?_); refine goes_ Try.func19 (by kernel_rfl) rfl #[.int .i64 a0, .int .i64 a0] (by rfl) rfl rfl (by (try simp only [List.map_toArray, List.map_cons, List.map_nil]); first | done | rfl) ?_; refine (impl_RectangleOf.calls a0 a0 q _ HQ.out).mono ?_; rintro e w22 ⟨vq, rfl, ho, hb2⟩
  have HO := Aside0.mk ho; have HB2 := Aside0.mk (below_step hHeld hb2); clear ho; obtain ⟨Aq, cq, rfl⟩ := Kd.R_slice HO.out; refine ⟨_, rfl, ?_⟩; refine hK.out _ _ (HB2.out) (fun hHeld => ?_); clear hK K; refine norm_ (a' := ?_) ?_ ?_; rotate_left
  ·show Act.put _ (some 16) _ = _
   simp only [Act.put, List.setIfInBounds_toArray, List.set_cons_zero, List.set_cons_succ, i64_w, i32_w]; rfl
  refine one_ (i := 9) (N := some 17) (qD_ 12 10) rfl rfl (one_of HT_.out (by kernel_rfl)) (by decide) (fun K hK => ?_); refine goes_ Try.func46 (by kernel_rfl) rfl #[.slice A1 l1.length c1, .slice Aq q.length cq] (by rfl) rfl rfl (by (try simp only [List.map_toArray, List.map_cons, List.map_nil]); first | done | rfl) ?_; refine (impl_SamePolygon.calls k A1 c1 l1 Aq cq q bb _ (Kd.C_below HE.out.rl hHeld) HC1.out (Kd.R_reads' HO.out).2.2 (Kd.R_reads' HO.out).2.1 HS.out).mono ?_; rintro e w23 ⟨rfl, hb3⟩
  refine ⟨_, rfl, ?_⟩; refine hK.out _ _ (below_step hHeld hb3) (fun hHeld => ?_); clear hK K; refine norm_ (a' := ?_) ?_ ?_; rotate_left
  ·show Act.put _ (some 17) _ = _
   simp only [Act.put, List.setIfInBounds_toArray, List.set_cons_zero, List.set_cons_succ, i64_w, i32_w]; rfl
  iterate 2 (first | (refine hz_ HT_ ?zy ?zp ?_ (v := ?_) (a' := ?_); (case zy => intro w'; go_simp; with_reducible rfl); (case zp => simp only [Act.put, List.setIfInBounds_toArray, List.set_cons_zero, List.set_cons_succ, i64_w, i32_w]; rfl)))
  refine done_ (done_of HT_.out (by kernel_rfl)) ?_; cases bb with
  | false =>
   obtain rfl := Option.some.inj (show some false = some r from by simpa using H2.out); go_wp2
   go_ret
   exact ⟨rfl, below_step HE.out.b hHeld⟩
  | true =>
   have h := H2.out; rw [if_pos rfl] at h; obtain ⟨ss, hss, h⟩ := Option.bind_eq_some_iff.mp h; obtain rfl := Option.some.inj h; have HSS := Aside0.mk hss; have HE2 := Aside0.mk (HE.out.below hHeld); clear hss h H2 hHeld HB2 HO; go_upto_region 4 with (fail)
   have hb4 := below_alloc (Below.refl w23.heap.size w23) (.cells #[.func (.func 47) #[] #[.pointer (some ⟨b1, 0, none⟩)]] 69); have HE3 := Aside0.mk (HE2.out.below hb4); have HF := Aside0.mk (ec_cell w23 (.func (.func 47) #[] #[.pointer (some ⟨b1, 0, none⟩)]) 69); clear hb4 HE2 HE hx1 hx2; generalize w23.alloc (.cells #[.func (.func 47) #[] #[.pointer (some ⟨b1, 0, none⟩)]] 69) = W4 at HE3 HF ⊢
   generalize w23.heap.size = bf at HF ⊢
   have HEW : Aside0 (EcW W4 bf b1 b2 A1 A2 c1 c2 l1 l2) := ⟨HF.out, HE3.out.p, HE3.out.t, HE3.out.rl, HE3.out.rt⟩; have hx2 := HE3.out.t; have hx1 := HF.out; clear HF; go_wp2_with (first | (go_at_call 49; refine (ec_contains HEW.out ss HSS.out).mono ?_; rintro e w5 ⟨rfl, hb5⟩; have HB5 := Aside0.mk (below_step HE3.out.b hb5); clear hb5))
   go_ret
   exact ⟨by simp, HB5.out⟩

end Go.Proofs.Ytihnhpohbpfkmaa.XFnColors
