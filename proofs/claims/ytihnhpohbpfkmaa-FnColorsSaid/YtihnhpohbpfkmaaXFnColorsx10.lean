/- What functions of the program compute, as plain Lean functions, and that Go's calls come to just that: written by wip/tools/xprint.py for the law FnColors. -/
import Derived.Test.YtihnhpohbpfkmaaXFnColorsx0
import Derived.Test.YtihnhpohbpfkmaaXFnColorsx3
import Derived.Test.YtihnhpohbpfkmaaXFnColorsx4
import Derived.Test.YtihnhpohbpfkmaaXFnColorsx7
import Derived.Test.YtihnhpohbpfkmaaXFnColorsx8
import Derived.Test.YtihnhpohbpfkmaaXFnColorsx9
namespace Go.Proofs.Ytihnhpohbpfkmaa.XFnColors
open Go.RowKit Go.Proofs.YtihnhpohbpfkmaaW.PrintWords Go.Proofs.YtihnhpohbpfkmaaW.PrintLast Go.Proofs.YtihnhpohbpfkmaaW.PrintMore
attribute [local go_sem] max2_int min2_int max_two min_two max_three min_three max_four min_four   -- for this text's walks alone
set_option linter.unusedVariables false
set_option linter.unusedSimpArgs false

/-! ### impl_Triangulate: function 15 -/
def impl_Triangulate.od0 : List Nat := [0, 1, 2, 3, 4, 5, 6, 7, 8, 9, 10]
def impl_Triangulate.od1 : List Nat := [0, 1, 2, 3, 4, 5, 6, 7, 8, 9, 10, 11, 12, 13, 14, 15, 16, 17, 18, 19, 20, 21]
def lays_del_ren : Go.Shelf.Ren := ⟨fun | 23 => 43 | n => n, fun | 22 => 26 | n => n, fun n => n⟩
theorem lays_del : Go.Proofs.Lays2.n23 Try.prog lays_del_ren := {
 mixed := by kernel_rfl,
 f23 := Try.func43.trans (congrArg some (by kernel_rfl)),
 t0 := Try.underlying0,
 a0 := Try.isAgg0,
 z0 := Try.sizeOf0,
 v0 := Try.zeroValue0,
 t3 := Try.underlying3,
 a3 := Try.isAgg3,
 z3 := Try.sizeOf3,
 v3 := Try.zeroValue3,
 t4 := Try.underlying4,
 a4 := Try.isAgg4,
 z4 := Try.sizeOf4,
 v4 := Try.zeroValue4,
 t22 := Try.underlying26,
 a22 := Try.isAgg26,
 z22 := Try.sizeOf26,
 v22 := Try.zeroValue26,
 i3 := by kernel_rfl }
/-- slices.Delete of one number of a row of one's own. -/
theorem tr_delete (base g cap : Nat) (ok : Nat → Prop) (l0 : List Int) (j : Nat) (hj : j < l0.length) (w : World) (ho0 : Kd.R (Kd.int .i64) 3 w base ok (.slice (some ⟨g, 0, none⟩) l0.length cap) l0) :
  Calls Try.prog 43 #[.slice (some ⟨g, 0, none⟩) l0.length cap, .int .i64 (j : Int), .int .i64 ((j + 1 : Nat) : Int)] w fun e w' => e = .returned (.slice (some ⟨g, 0, none⟩) (l0.eraseIdx j).length cap) ∧ Kd.R (Kd.int .i64) 3 w' base ok (.slice (some ⟨g, 0, none⟩) (l0.eraseIdx j).length cap) (l0.eraseIdx j) ∧ w.grownBy w' (some g) := by
 have hok := ho0.1
 have ho := Kd.own_of_R ho0
 have hn : 0 < l0.length := by omega
 rcases ho.2 with ⟨he, hn'⟩ | ⟨g', cap', cur, he, hbase, hb, h1, h2, h3, h4⟩
 ·exact absurd he (by simp)
 ·simp only [Value.slice.injEq, Option.some.injEq, Addr.mk.injEq, and_true, true_and] at he
  obtain ⟨rfl, rfl⟩ := he; rw [Nat.mul_one] at h4; have hgP : ok g := hok g rfl; have hm : cap ≤ 9223372036854775807 := by unfold maxLen at h2; omega
  refine (Any.slices_Delete_int lays_del g 0 cap j (j + 1) l0 w (Go.holds_of_blockI hb h4) h1 hm (by omega) hj).mono ?_; rintro e w' ⟨rfl, n, rfl⟩
  have hr : l0.take j ++ l0.drop (j + 1) = l0.eraseIdx j := (List.eraseIdx_eq_take_drop_succ l0 j).symm; have hlen : (l0.eraseIdx j).length = l0.length - 1 := List.length_eraseIdx_of_lt hj; rw [hr, show j + 1 - j = 1 by omega]; generalize l0.eraseIdx j = r at hlen ⊢
  have hg := Go.grownBy_sortedI (w := w) (g := g) (n := n) (os := #[]) (r ++ List.replicate 1 (0 : Int)).toArray; have hown := Go.ownsRow_sortedI (n := n) (os := #[]) (ts := r ++ List.replicate 1 (0 : Int)) (by simp; omega) hbase hb h1 h2 h3; rw [Go.Sort.grow_empty] at hg hown; refine ⟨by rw [hlen], ?_, hg⟩; refine Kd.R_of_own ?_ (fun k hk => hok k hk); rcases hown.2 with ⟨he, _⟩ | ⟨g', cap', cur', he, q1, q2, q3, q4, q5, q6⟩
  ·exact absurd he (by simp)
  ·simp only [Value.slice.injEq, Option.some.injEq, Addr.mk.injEq, and_true, true_and] at he
   obtain ⟨rfl, rfl⟩ := he; refine ⟨by simp [encs], .inr ⟨g, cap, cur', rfl, q1, q2, by omega, q4, q5, ?_⟩⟩; rw [Nat.mul_one] at q6 ⊢; have e1 : cur'.toList.take r.length = (cur'.toList.take l0.length).take r.length := by rw [List.take_take, Nat.min_eq_left (by omega)]
   rw [e1, q6, List.map_append, List.take_append_of_le_length (by simp), List.take_of_length_le (by simp)]; rfl
/-! Triangulate: ears are cut off, one after the other -/
def trTri (a b c : Int) : List Int := [a, b, c].mergeSort fun x y => decide (x ≤ y)
theorem tr_sort (a b c : Int) : slices_Sort_int_int.f [a, b, c] = some (trTri a b c) := by
 unfold slices_Sort_int_int.f trTri
 rw [if_pos (by simp)]
theorem tr_trilen (a b c : Int) : (trTri a b c).length = 3 := by unfold trTri; rw [List.length_mergeSort]; rfl
theorem tr_info26 : (Try.prog.info? 26).map (fun i => (i.zero, i.size, i.bytes)) = some (some (.slice none 0 0), 1, 24) := by kernel_rfl
/-- What the closure writes: the box of out. -/
structure TrO (W : World) (B gO : Nat) (vO : Value) (out : List (List Int)) : Prop where
 le : B ≤ gO
 box : W.heap[gO]? = some (.cells #[vO] 35 (0, 0))
 r : Kd.S (Kd.slice 3 (Kd.int .i64)) 26 W B (fun _ => True) vO out
theorem TrO.below {W W' : World} {B gO : Nat} {vO : Value} {out : List (List Int)} (h : TrO W B gO vO out) (hb : Below W.heap.size W W') : TrO W' B gO vO out :=
 ⟨h.le, (hb.block _ (Array.getElem?_eq_some_iff.1 h.box).1).trans h.box, Kd.S_below h.r hb⟩
theorem TrO.lt {W : World} {B gO : Nat} {vO : Value} {out : List (List Int)} (h : TrO W B gO vO out) : gO < W.heap.size := (Array.getElem?_eq_some_iff.1 h.box).1
theorem TrO.cell {W : World} {B gO : Nat} {vO : Value} {out : List (List Int)} (h : TrO W B gO vO out) : W.cell? ⟨gO, 0, none⟩ = some vO := by
 unfold World.cell?
 rw [h.box]
 rfl
theorem tr_row {W w : World} {A7 : Option Addr} {n c7 B gO : Nat} {t : List Int} {ok : Nat → Prop} {vO : Value} {out : List (List Int)} (h : Kd.R (Kd.int .i64) 3 w W.heap.size ok (.slice A7 n c7) t) (hO : TrO W B gO vO out) : Kd.M (Kd.slice 3 (Kd.int .i64)) w B (fun k_ => W.heap.size ≤ k_) t [.slice A7 n c7] :=
 ⟨_, rfl, Kd.R_lower (Kd.R_mono (Kd.R_bound h) (fun _ hk => hk.2.1)) (by have := hO.lt; have := hO.le; omega)⟩
/-- The box while out has grown: what it holds is the elder value. -/
structure TrG (W : World) (B gO : Nat) (vO v1 : Value) (out1 : List (List Int)) : Prop where
 le : B ≤ gO
 box : W.heap[gO]? = some (.cells #[vO] 35 (0, 0))
 r : Kd.S (Kd.slice 3 (Kd.int .i64)) 26 W B (fun _ => True) v1 out1
theorem TrO.grown {W W1 : World} {B gO : Nat} {vO v1 : Value} {out out1 : List (List Int)} (h : TrO W B gO vO out) (hr : Kd.S (Kd.slice 3 (Kd.int .i64)) 26 W1 B (fun _ => True) v1 out1) (hg : W.grownBy W1 vO.ownBlock) : TrG W1 B gO vO v1 out1 := by
 refine ⟨h.le, (hg.block gO h.lt (fun e => ?_)).trans h.box, hr⟩
 obtain ⟨cs, hc⟩ := Kd.S_typed h.r gO e.symm
 rw [h.box] at hc
 injection hc with hc
 injection hc with _ hc
 cases hc
theorem TrG.cell {W : World} {B gO : Nat} {vO v1 : Value} {out : List (List Int)} (h : TrG W B gO vO v1 out) : W.cell? ⟨gO, 0, none⟩ = some vO := by
 unfold World.cell?
 rw [h.box]
 rfl
theorem TrO.stored {W : World} {B gO : Nat} {vO v1 : Value} {out1 : List (List Int)} (h : TrG W B gO vO v1 out1) : TrO (W.setCell ⟨gO, 0, none⟩ v1) B gO v1 out1 :=
 ⟨h.le, by rw [heap_setCell_same W gO 0 _ _ v1 h.box]; rfl, Kd.S_set h.r h.box (by decide) 0 v1⟩
set_option maxHeartbeats 8000000 in
set_option maxRecDepth 100000 in
theorem tr_tri (a b c : Int) (W : World) (B gO : Nat) (vO : Value) (out : List (List Int)) (hO : TrO W B gO vO out) (hl : out.length ≤ 1000) :
  Calls Try.prog 41 (#[.int .i64 a, .int .i64 b, .int .i64 c] ++ #[.pointer (some ⟨gO, 0, none⟩)]) W fun e w' => e = .returned (.tuple #[]) ∧ (∃ v1, TrO w' B gO v1 (out ++ [trTri a b c])) ∧ Below B W w' := by
 obtain ⟨AO, cO, rfl⟩ := Kd.S_slice hO.r
 have HO := Aside0.mk hO
 have HB := Aside0.mk (Below.refl W.heap.size W)
 have HL := Aside0.mk hl
 clear hO hl
 go_enter Try.func41, Try.ntmps41
 go_wp2_with (first
  | ((with_reducible refine gate_dst (N := 11) rfl ?_); refine Kd.R_lit (Kd.int .i64) _ 3 ?hg (N := 11) ?hd (xs := [a, b, c]) (inner := [.int .i64 a, .int .i64 b, .int .i64 c]) (ok := fun _ => True) (okp := fun _ => True) ?hr ?hp (fun _ hk => hk) trivial (Below.refl _ _) (Nat.le_refl _) (by simp) ?_; (case hd => rfl); (case hg => rfl); (case hr => first | (go_simp; done) | (go_simp; rfl)); (case hp => exact (Reps.one (show Kd.M (Kd.int .i64) _ _ _ a [.int .i64 a] from rfl) (Reps.one (show Kd.M (Kd.int .i64) _ _ _ b [.int .i64 b] from rfl) (Reps.one (show Kd.M (Kd.int .i64) _ _ _ c [.int .i64 c] from rfl) (Reps.none _ _))))); intro v11 w12 ho13 hb hg_ hnew_; clear hg_ hnew_; have HS := Aside0.mk ho13; replace HB := Aside0.mk (below_step HB.out hb); clear hb ho13)
  | (go_at_call 32; (with_reducible refine (slices_Sort_int_int.calls (fun _ => True) v11 [a, b, c] (trTri a b c) W w12 HB.out HS.out (tr_sort a b c)).mono ?_); rintro e w14 ⟨rfl, ho, hb, hk⟩; have HS2 := Aside0.mk ho; clear HS; have HB2 := Aside0.mk hb; clear HB; have HB := HB2; clear ho hb hk HB2; obtain ⟨A7, c7, rfl⟩ := Kd.R_slice HS2.out; have HO2 := Aside0.mk (HO.out.below HB.out); have hx := HO2.out.cell)
  | ((with_reducible refine gate_builtin (b := .append) (xs := #[.tmp 14, .tmp 16]) rfl ?_); at_builtin; refine Kd.S_append (Kd.slice 3 (Kd.int .i64)) (w0 := W) B rfl (.tmp 14) (.tmp 16) 35 26 (.slice none 0 0) 24 rfl Try.underlying35 tr_info26 rfl (by decide) (by omega) (.slice AO out.length cO) out (trTri a b c) [.slice A7 (trTri a b c).length c7] (fun _ => True) (fun k_ => W.heap.size ≤ k_) rfl rfl ?aP ?aK (fun _ _ => trivial) ?aO ?aB ?aS ?aL ?_; (case aP => exact tr_row HS2.out HO.out); (case aK => exact fun k_ hk_ => ⟨trivial, fun e_ => by have := Kd.S_lt HO.out.r _ e_.symm; omega⟩); (case aO => exact Kd.S_mono (Kd.S_below (Kd.S_bound HO.out.r) HB.out) (fun k_ hk_ => ⟨trivial, fun h_ => by have := hk_.2.2.1; omega⟩)); (case aB => exact HB.out.mono (by have := HO.out.lt; have := HO.out.le; omega)); (case aS => exact (by have := HO2.out.lt; have := HO.out.le; omega)); (case aL => have := HL.out; omega); intro v17 w17 ho hb hg hat; obtain ⟨A17, c17, rfl⟩ := Kd.S_slice ho; have HS3 := Aside0.mk (TrO.grown HO2.out ho hg); have HB3 := Aside0.mk hb; clear HB hx; have hx1 := HS3.out.cell; have hx2 := blk_frozen HS3.out.box 0; clear ho hb hg hat))
 first | go_end0 | ((try simp only [Exit.inBlock, Exit.then]); refine bodyPost_ret (results_none rfl _ _ _) rfl ?_)
 exact ⟨rfl, ⟨_, by have h_ := HS3.out; rw [List.length_append, List.length_singleton] at h_; exact TrO.stored h_⟩, Below.setCell HB3.out HS3.out.le _⟩
def trEar (k : Nat) (now : List S25) : Nat → Nat → Option Nat
 | 0, j => some j
 | m + 1, j => (impl_isEar.f k now (j : Int)).bind fun b => if b = true then some j else trEar k now m (j + 1)
def trNow (p : List S25) (left : List Int) : List S25 := left.map fun i => rd_T25 p i
def trCut (left : List Int) (j : Nat) : List Int := trTri (rd left (((j + left.length - 1) % left.length : Nat) : Int)) (rd left (j : Int)) (rd left (((j + 1) % left.length : Nat) : Int))
def trLoop (k : Nat) (p : List S25) : Nat → List Int → List (List Int) → Option (List (List Int) × Bool)
 | 0, _, _ => none
 | m + 1, left, out =>
  if 3 < left.length then (trEar k (trNow p left) left.length 0).bind fun j => if j = left.length then some ([], false) else trLoop k p m (left.eraseIdx j) (out ++ [trCut left j])
  else some (out ++ [trTri (rd left 0) (rd left 1) (rd left 2)], true)
def trIota (n : Nat) : List Int := (List.range n).map Int.ofNat
def impl_Triangulate.f (k : Nat) (p : List S25) : Option (List (List Int) × Bool) :=
 (impl_PolygonOk.f k p).bind fun b => if b = true then trLoop k p p.length (trIota p.length) [] else some ([], false)
theorem trEar_mono (k : Nat) (now : List S25) : ∀ m j, LeO (trEar k now m j) (trEar (k + 1) now m j)
 | 0, _ => LeO.refl _
 | m + 1, j => LeO.bind (impl_isEar.mono _ _ k) (fun _ => LeO.ite (LeO.refl _) (trEar_mono k now m (j + 1)))
theorem trLoop_mono (k : Nat) (p : List S25) : ∀ m left out, LeO (trLoop k p m left out) (trLoop (k + 1) p m left out)
 | 0, _, _ => LeO.refl _
 | m + 1, left, out => LeO.ite (LeO.bind (trEar_mono k _ _ _) (fun _ => LeO.ite (LeO.refl _) (trLoop_mono k p m _ _))) (LeO.refl _)
theorem impl_Triangulate.mono : ∀ p k, LeO (impl_Triangulate.f k p) (impl_Triangulate.f (k + 1) p) := fun p k =>
 LeO.bind (impl_PolygonOk.mono _ k) (fun _ => LeO.ite (trLoop_mono k p _ _ _) (LeO.refl _))
theorem trEar_le {k : Nat} {now : List S25} : ∀ {m j r : Nat}, trEar k now m j = some r → j ≤ r ∧ r ≤ j + m
 | 0, j, r, h => by obtain rfl := Option.some.inj h; omega
 | m + 1, j, r, h => by
  rw [trEar] at h; obtain ⟨b, hb, h⟩ := Option.bind_eq_some_iff.mp h; cases b with
  | true => obtain rfl := Option.some.inj h; omega
  | false => have := trEar_le h; omega
/-- The numbers that are left: corners. -/
def TrL (n : Nat) (left : List Int) : Prop := 3 ≤ left.length ∧ left.length ≤ 10 ∧ ∀ x ∈ left, 0 ≤ x ∧ x < (n : Int)
theorem trL_iota {n : Nat} (h : 3 ≤ n ∧ n ≤ 10) : TrL n (trIota n) := by
 refine ⟨by unfold trIota; simp; omega, by unfold trIota; simp; omega, fun x hx => ?_⟩
 unfold trIota at hx
 obtain ⟨i, hi, rfl⟩ := List.mem_map.mp hx
 rw [List.mem_range] at hi
 exact ⟨Int.natCast_nonneg _, by show ((i : Nat) : Int) < _; omega⟩
theorem trL_erase {n : Nat} {left : List Int} (h : TrL n left) (hl : 3 < left.length) {j : Nat} (hj : j < left.length) : TrL n (left.eraseIdx j) := by
 have hlen : (left.eraseIdx j).length = left.length - 1 := List.length_eraseIdx_of_lt hj
 exact ⟨by omega, by have := h.2.1; omega, fun x hx => h.2.2 x (List.mem_of_mem_eraseIdx hx)⟩
theorem trL_rd {n : Nat} {left : List Int} (h : TrL n left) {i : Int} (h0 : 0 ≤ i) (h1 : i < left.length) : 0 ≤ rd left i ∧ rd left i < (n : Int) := by
 obtain ⟨m, rfl⟩ := Int.eq_ofNat_of_zero_le h0
 have hm : m < left.length := by omega
 have : rd left (m : Int) = left[m] := by simp [rd, List.getD_eq_getElem?_getD, hm]
 rw [this]
 exact h.2.2 _ (List.getElem_mem hm)
/-- Between two cuts: the row of what is left, and the triangles so far. -/
structure TrI (w W : World) (gL cL gO : Nat) (vO : Value) (left : List Int) (out : List (List Int)) : Prop where
 below : Below w.heap.size w W
 wl : w.heap.size ≤ gL
 rl : Kd.R (Kd.int .i64) 3 W w.heap.size (fun k => k = gL) (.slice (some ⟨gL, 0, none⟩) left.length cL) left
 o : TrO W (gL + 1) gO vO out
theorem TrI.step {w W W' : World} {gL cL gO : Nat} {vO : Value} {left : List Int} {out : List (List Int)} (h : TrI w W gL cL gO vO left out) (hb : Below W.heap.size W W') : TrI w W' gL cL gO vO left out :=
 ⟨below_step h.below hb, h.wl, Kd.R_below h.rl hb, h.o.below hb⟩
theorem TrI.tri {w W W' : World} {gL cL gO : Nat} {vO v1 : Value} {left : List Int} {out out' : List (List Int)} (h : TrI w W gL cL gO vO left out) (hb : Below (gL + 1) W W') (ho : TrO W' (gL + 1) gO v1 out') : TrI w W' gL cL gO v1 left out' :=
 ⟨h.below.trans (Below.mono hb (by have := h.wl; omega)), h.wl, Kd.R_step h.rl (fun k hk _ => hb.block k (by omega)), ho⟩
theorem TrI.del {w W W' : World} {gL cL gO : Nat} {vO : Value} {left left' : List Int} {out : List (List Int)} (h : TrI w W gL cL gO vO left out) (hr : Kd.R (Kd.int .i64) 3 W' w.heap.size (fun k => k = gL) (.slice (some ⟨gL, 0, none⟩) left'.length cL) left') (hg : W.grownBy W' (some gL)) : TrI w W' gL cL gO vO left' out := by
 have ho := h.o
 refine ⟨h.below.grown hg h.below.size (fun k hk => by cases hk; exact h.wl), h.wl, hr, ⟨ho.le, ?_, ?_⟩⟩
 ·exact (hg.block gO ho.lt (fun e => by have := ho.le; injection e with e; omega)).trans ho.box
 ·exact Kd.S_mono (Kd.S_grown (Kd.S_bound ho.r) hg (fun k hk e => by have := hk.2.1; injection e with e; omega)) (fun _ _ => trivial)
theorem tr_empty {W : World} {base : Nat} (hb : base ≤ W.heap.size) : Kd.S (Kd.slice 3 (Kd.int .i64)) 26 (W.alloc (.cells #[] 26)) base (fun _ => True) (.slice (some ⟨W.heap.size, 0, none⟩) 0 0) ([] : List (List Int)) := by
 refine ⟨fun _ => 0, ⟨fun k hk => trivial, [], ?_, Reps.none _ _⟩⟩
 have h2 := World.ownsRow_lit (base := base) (e := 26) (size := 1) W (#[] : Array Value) 0 hb (by decide) (by simp)
 exact h2
theorem tr_iota_succ (i : Nat) : trIota (i + 1) = trIota i ++ [(i : Int)] := by
 unfold trIota
 rw [List.range_succ, List.map_append]
 rfl
theorem tr_iota_len (n : Nat) : (trIota n).length = n := by unfold trIota; simp
theorem tr_add (g n : Nat) : (⟨g, 0, none⟩ : Addr).add n = ⟨g, n, none⟩ := by
 simp [Addr.add]
 omega
theorem tr_idx {n j : Nat} (hj : j < n) (hn : n ≤ 10) : Int.tmod (wrap64 ((wrap64 ((j : Int) + (n : Int))) - 1)) (n : Int) = (((j + n - 1) % n : Nat) : Int) ∧ Int.tmod (wrap64 ((j : Int) + 1)) (n : Int) = (((j + 1) % n : Nat) : Int) := by
 have e1 : wrap64 ((wrap64 ((j : Int) + (n : Int))) - 1) = ((j + n - 1 : Nat) : Int) := by
  rw [show wrap64 ((j : Int) + (n : Int)) = (j : Int) + (n : Int) from by unfold wrap64; omega]; unfold wrap64
  omega
 have e2 : wrap64 ((j : Int) + 1) = ((j + 1 : Nat) : Int) := by unfold wrap64; omega
 rw [e1, e2]
 exact ⟨(Int.ofNat_tmod _ _).symm, (Int.ofNat_tmod _ _).symm⟩
theorem trV_ {P : Program} {ops : Array Oper} {Q : Exit → Act → World → Prop} {oi : Oper} {N : Option Tmp} {a : Act} {w : World} {K : Act → World → Prop} (g : Nat) (lb : Array Value) (eg : ∀ args w, (callFunc g args).run P w = .ok (.enter g args) w) {t : Tmp} {as_ : Array Operand} {ts : Array TypeId} (args : Array Value)
  (hw : Region.wanted oi (yielded ops a.tmps) = true) (hN : oi.dst = N) (hop : oi.op = .call { callee := .value (.tmp t), args := as_, argTypes := ts }) (hv : a.eval (.tmp t) = .func (.func g) #[] lb) (hargs : as_.map a.eval = args)
  (h : Calls P g (args ++ lb) w fun e w' => ∃ v, e = .returned v ∧ K (a.put N v) w') : if Region.wanted oi (yielded ops a.tmps) = true then Oper.wp P oi a w K Q else K (a.put N undef) w := by
 refine call_ g (args ++ lb) hw hN ?_ h
 unfold execOp
 simp [hop, resolve, Deferred.ofValue, invoke, hargs, hv, eg]
def tr15.qB (n m : Nat) : Array Bool := ((List.range n).map fun j => m.testBit j).toArray
def tr15.T20 : Bool × List (List Nat × List Nat) := (true, [([], []), ([], []), ([0, 1], [0, 1]), ([2], [2]), ([3], [3]), ([3], [3]), ([4, 5, 3, 3], [3, 4, 5]), ([6, 3], [3, 6]), ([3, 7], [3, 7])])
def tr15.B20 : List Nat := [0, 0, 3, 7, 15, 15, 63, 127, 255]
theorem tr15.tab20 : rtab .any (opsOf Try.f15 20) = tr15.T20 := by kernel_rfl
theorem tr15.bits20 : waitsOk tr15.T20.2 tr15.B20 = true := by kernel_rfl
def tr15.T24 : Bool × List (List Nat × List Nat) := (true, [([], []), ([], []), ([], []), ([], []), ([2, 3], [2, 3]), ([4], [4]), ([], []), ([5, 6], [5, 6]), ([1, 7], [1, 7]), ([8], [8]), ([], []), ([], []), ([10, 11], [10, 11]), ([12], [12]), ([], []), ([], []), ([15], [15]), ([], []), ([16, 17], [16, 17]), ([14, 18], [14, 18]), ([19], [19]), ([0, 9, 13, 20], [0, 9, 13, 20])])
def tr15.B24 : List Nat := [0, 0, 0, 0, 12, 28, 0, 124, 254, 510, 0, 0, 3072, 7168, 0, 0, 32768, 0, 229376, 507904, 1032192, 2097151]
theorem tr15.tab24 : rtab .any (opsOf Try.f15 24) = tr15.T24 := by kernel_rfl
theorem tr15.bits24 : waitsOk tr15.T24.2 tr15.B24 = true := by kernel_rfl
def tr15.T26 : Bool × List (List Nat × List Nat) := (true, [([], []), ([], []), ([1], [1]), ([2], [2]), ([], []), ([4], [4]), ([5], [5]), ([], []), ([7], [7]), ([8], [8]), ([0, 3, 6, 9], [0, 3, 6, 9])])
def tr15.B26 : List Nat := [0, 0, 2, 6, 0, 16, 48, 0, 128, 384, 1023]
theorem tr15.tab26 : rtab .any (opsOf Try.f15 26) = tr15.T26 := by kernel_rfl
theorem tr15.bits26 : waitsOk tr15.T26.2 tr15.B26 = true := by kernel_rfl
theorem tr_new (W : World) (o : Obj) {n : Nat} (h : W.heap.size = n) : (W.alloc o).heap[n]? = some o := by
 subst h
 show (W.heap.push _)[W.heap.size]? = _
 simp
theorem TrI.start {w W : World} {gL cL : Nat} {left : List Int} (hb : Below w.heap.size w W) (hg : w.heap.size ≤ gL ∧ gL < W.heap.size) (hr : Kd.R (Kd.int .i64) 3 W w.heap.size (fun _ => True) (.slice (some ⟨gL, 0, none⟩) left.length cL) left) :
  TrI w ((W.alloc (.cells #[] 26)).alloc (.cells #[.slice (some ⟨W.heap.size, 0, none⟩) 0 0] 35)) gL cL (W.heap.size + 1) (.slice (some ⟨W.heap.size, 0, none⟩) 0 0) left [] := by
 have hb1 := below_alloc (Below.refl W.heap.size W) (.cells #[] 26)
 have hb2 := below_alloc (Below.refl (W.alloc (.cells #[] 26)).heap.size (W.alloc (.cells #[] 26))) (.cells #[.slice (some ⟨W.heap.size, 0, none⟩) 0 0] 35)
 refine ⟨below_step hb (below_step hb1 hb2), hg.1, Kd.R_below (Kd.R_mono (Kd.R_tight rfl hr) (fun k hk => ?_)) (below_step hb1 hb2), ⟨by omega, tr_new _ _ (by show (W.heap.push _).size = _; simp), Kd.S_below (tr_empty (by omega)) hb2⟩⟩
 have : gL = k := by simpa [Value.ownBlock] using hk.symm
 exact this.symm
set_option maxHeartbeats 16000000 in
set_option maxRecDepth 100000 in
theorem impl_Triangulate.calls (k : Nat) (A0 : Option Addr) (c0 : Nat) (l0 : List S25) (r1 : List (List Int)) (r2 : Bool) (w : World) (hr0 : Kd.C k25 w A0 l0.length l0) (hc0 : l0.length ≤ c0) (h : impl_Triangulate.f k l0 = some (r1, r2)) :
  Calls Try.prog 15 #[.slice A0 l0.length c0] w fun e w' => ∃ v0_ : Value, e = .returned (.tuple #[v0_, .bool r2]) ∧ Kd.S (Kd.slice 3 (Kd.int .i64)) 26 w' w.heap.size (fun _ => True) v0_ r1 ∧ Below w.heap.size w w' := by
 have hu := Try.underlying25
 have HR0 := Aside0.mk hr0
 have HC0 := Aside0.mk hc0
 unfold impl_Triangulate.f at h
 obtain ⟨bp, hbp, h⟩ := Option.bind_eq_some_iff.mp h
 have HBP := Aside0.mk hbp
 clear hr0 hc0 hbp
 cases bp with
 | false =>
  obtain ⟨rfl, rfl⟩ := Prod.mk.inj (Option.some.inj (show some ([], false) = some (r1, r2) from by simpa using h)); clear h; go_enter Try.func15, Try.ntmps15
  go_wp2_with (first | (go_at_call 40; refine (impl_PolygonOk.calls k A0 c0 l0 false w HR0.out HC0.out HBP.out).mono ?_; rintro e w2 ⟨rfl, hb⟩; have HB := Aside0.mk hb; clear hb))
  go_ret2
  exact ⟨_, rfl, Kd.S_nil _ _ _ _ _, HB.out⟩
 | true =>
  rw [if_pos rfl] at h; have HN := Aside0.mk (it_poly_len HBP.out); have H := Aside0.mk h; clear h; go_enter Try.func15, Try.ntmps15
  go_wp2_with (first
   | (go_at_call 40; refine (impl_PolygonOk.calls k A0 c0 l0 true w HR0.out HC0.out HBP.out).mono ?_; rintro e w2 ⟨rfl, hb⟩; have HB := Aside0.mk hb; clear hb)
   | ((with_reducible refine gate_dst (N := 16) rfl ?_); refine Kd.R_lit (Kd.int .i64) _ 3 ?hg (N := 16) ?hd (xs := ([] : List Int)) (inner := []) (ok := fun _ => True) (okp := fun _ => True) ?hr ?hp (fun _ hk => hk) trivial (Below.refl _ _) (Nat.le_refl _) (by simp) ?_; (case hd => rfl); (case hg => rfl); (case hr => first | (go_simp; done) | (go_simp; rfl)); (case hp => exact (Reps.none _ _)); intro v16 w12 ho13 hb hg_ hnew_; clear hg_ hnew_; have HS := Aside0.mk (Kd.R_lower ho13 (below_size HB.out)); have HB2 := Aside0.mk (below_step HB.out hb); clear HB; have HB := HB2; clear HB2 hb ho13))
  go_loopg [4, 19] l0.length (fun q v4 v19 w' => ∃ i : Nat, v19 = .int .i64 (i : Int) ∧ Aside0 (i + q = l0.length) ∧ Aside0 (Kd.R (Kd.int .i64) 3 w' w.heap.size (fun _ => True) v4 (trIota i)) ∧ Aside0 (Below w.heap.size w w'))
  case atStart => exact ⟨0, rfl, ⟨by omega⟩, HS, HB⟩
  case round =>
   clear HS HB; obtain ⟨i, rfl, HI, HS, HB⟩ := hrel; rcases gk with _ | q1
   rotate_left
   ·have ci0 : ((i : Int) < (l0.length : Int)) = True := eq_true (by have := HI.out; omega)
    have ci1 : decide ((i : Int) < (l0.length : Int)) = true := decide_eq_true (by have := HI.out; omega); have e1 : wrap64 ((i : Int) + 1) = ((i + 1 : Nat) : Int) := by have := HI.out; have := HN.out; unfold wrap64; omega
    have E1 := Aside0.mk e1; clear e1; go_wp2_with (first | ((with_reducible refine gate_builtin (b := .append) (xs := #[.tmp 22, .tmp 24]) rfl ?_); at_builtin; refine Kd.R_append (Kd.int .i64) (w0 := w) w.heap.size rfl (.tmp 22) (.tmp 24) 26 3 (.int .i64 0) 8 rfl Try.underlying26 info3 rfl (by decide) (by omega) u4 (trIota i) (i : Int) [.int .i64 i] (fun _ => True) (fun _ => False) rfl rfl ?aP (fun _ hk => hk.elim) ?aF HS.out HB.out ?aS ?aL ?_; (case aP => exact rfl); (case aF => exact (fun _ _ => trivial)); (case aS => exact (below_size HB.out)); (case aL => rw [tr_iota_len]; have := HI.out; have := HN.out; omega); intro v25 w14 ho hb hg hat; have HS2 := Aside0.mk ho; have HB2 := Aside0.mk hb; clear HS HB ho hb hg hat))
    go_roundg q1
    case measure => exact Nat.lt_succ_self _
    case rel => exact ⟨i + 1, congrArg _ E1.out, ⟨by have := HI.out; omega⟩, ⟨by rw [tr_iota_succ]; exact HS2.out⟩, HB2⟩
   ·have hi : i = l0.length := by have := HI.out; omega
    subst hi
    clear HI; have hpos : 0 < (trIota l0.length).length := by rw [tr_iota_len]; have := HN.out; omega
    obtain ⟨gL, cL, rfl, gLb, gLl, gLc, hGL⟩ := Kd.R_form HS.out hpos; have HGL := Aside0.mk (show w.heap.size ≤ gL ∧ gL < wr.heap.size from ⟨gLb, gLl⟩); clear hpos gLb gLl hGL; go_upto_region 11 with (fail)
    have HTI : Aside0 (TrI w ((wr.alloc (.cells #[] 26)).alloc (.cells #[.slice (some ⟨wr.heap.size, 0, none⟩) 0 0] 35)) gL cL (wr.heap.size + 1) (.slice (some ⟨wr.heap.size, 0, none⟩) 0 0) (trIota l0.length) []) := ⟨TrI.start HB.out HGL.out HS.out⟩; clear HS HB HGL; generalize (wr.alloc (.cells #[] 26)).alloc (.cells #[.slice (some ⟨wr.heap.size, 0, none⟩) 0 0] 35) = W1 at HTI ⊢
    generalize wr.heap.size + 1 = gO at HTI ⊢
    generalize (.slice (some ⟨wr.heap.size, 0, none⟩) 0 0 : Value) = vO at HTI ⊢
    go_loopg [4] l0.length (fun q v4 w' => ∃ (left : List Int) (out : List (List Int)) (vO : Value), v4 = .slice (some ⟨gL, 0, none⟩) left.length cL ∧ Aside0 (trLoop k l0 q left out = some (r1, r2)) ∧ Aside0 (TrL l0.length left) ∧ Aside0 (out.length + left.length ≤ 20) ∧ Aside0 (TrI w w' gL cL gO vO left out))
    case atStart => exact ⟨trIota l0.length, [], vO, rfl, H, ⟨trL_iota HN.out⟩, ⟨by rw [tr_iota_len]; have := HN.out; simp; omega⟩, HTI⟩
    case round =>
     clear H HTI; obtain ⟨left, out, vO1, rfl, H, HL, HOL, HTI⟩ := hrel; rcases gk with _ | q1
     ·exact absurd H.out (by simp [trLoop])
     have h := H.out; rw [trLoop] at h; by_cases c3 : 3 < left.length
     rotate_left
     ·rw [if_neg c3] at h
      obtain ⟨hr1, hr2⟩ := Prod.mk.inj (Option.some.inj h); have HR1 := Aside0.mk hr1; have HR2 := Aside0.mk hr2; clear hr1 hr2; have l3 : left.length = 3 := by have := HL.out.1; omega
      have HL3 := Aside0.mk l3; clear h H c3; have hC := (Kd.R_reads' HTI.out.rl).2.2; obtain ⟨ad, ea, ha0⟩ := Kd.at_int hC 0 (by omega) (by omega); obtain ⟨ad1, eb, ha1⟩ := Kd.at_int hC 1 (by omega) (by omega); obtain ⟨ad2, ec, ha2⟩ := Kd.at_int hC 2 (by omega) (by omega); cases ea; cases eb; cases ec; clear hC; generalize rd left 0 = ta at ha0 HR1
      generalize rd left 1 = tb at ha1 HR1
      generalize rd left 2 = tc at ha2 HR1
      rw [l3]; clear l3; go_wp2
      refine start_ (n := 11) (S := fun w' => w'.cell? ⟨gL, 0, none⟩ = some (.int .i64 ta) ∧ w'.cell? ⟨gL, 1, none⟩ = some (.int .i64 tb) ∧ w'.cell? ⟨gL, 2, none⟩ = some (.int .i64 tc)) (ds := []) (qE_ 11 impl_Triangulate.od0 0) (by kernel_rfl) rfl rfl ⟨ha0, ha1, ha2⟩ (fun hHeld => ?_); refine with_tabW tr15.tab26 tr15.bits26 (fun HT_ HW_ => ?_); have HTI2 : Aside0 (TrI w wr.drew gL cL gO vO1 left out) := ⟨HTI.out.step (below_drew1 (Below.refl wr.heap.size wr))⟩; clear HTI; generalize wr.drew = w20 at HTI2 hHeld ⊢
      iterate 10 (first | (refine gz_ HT_ ?zy ?zp ?_ (v := ?_) (a' := ?_); (case zy => intro w'; go_simp; with_reducible rfl); (case zp => simp only [Act.put, List.setIfInBounds_toArray, List.set_cons_zero, List.set_cons_succ, i64_w, i32_w]; rfl)) | (refine gt_ HT_ HW_ hHeld ?zy ?zp ?_ (v := ?_) (a' := ?_); (case zy => rintro w' s_; obtain ⟨s0, s1, s2⟩ := s_; go_simp; with_reducible rfl); (case zp => simp only [Act.put, List.setIfInBounds_toArray, List.set_cons_zero, List.set_cons_succ, i64_w, i32_w]; rfl)))
      refine one_ (i := 10) (N := some 100) (qE_ 11 impl_Triangulate.od0 11) rfl rfl (one_of HT_.out (by kernel_rfl)) (by decide) (fun K hK => ?_); refine trV_ 41 #[.pointer (some ⟨gO, 0, none⟩)] (enters_of Try.func41 (by kernel_rfl) rfl) #[.int .i64 ta, .int .i64 tb, .int .i64 tc] (by rfl) rfl rfl (by rfl) (by (try simp only [List.map_toArray, List.map_cons, List.map_nil]); first | done | rfl) ?_; refine (tr_tri ta tb tc _ (gL + 1) gO vO1 out HTI2.out.o (by have := HOL.out; omega)).mono ?_; rintro e w21 ⟨rfl, ⟨v1, hO⟩, hb1⟩
      have HTI3 := Aside0.mk (HTI2.out.tri hb1 hO); clear hO; refine ⟨_, rfl, ?_⟩; refine hK.out _ _ (⟨(hb1.cell (Nat.lt_succ_self gL)).trans hHeld.1, (hb1.cell (Nat.lt_succ_self gL)).trans hHeld.2.1, (hb1.cell (Nat.lt_succ_self gL)).trans hHeld.2.2⟩) (fun hHeld => ?_); clear hK K; refine norm_ (a' := ?_) ?_ ?_; rotate_left
      ·show Act.put _ (some 100) _ = _
       simp only [Act.put, List.setIfInBounds_toArray, List.set_cons_zero, List.set_cons_succ, i64_w, i32_w]; rfl
      refine done_ (done_of HT_.out (by kernel_rfl)) ?_; obtain ⟨A1, c1, rfl⟩ := Kd.S_slice HTI3.out.o.r; have hx := HTI3.out.o.cell; go_wp2
      go_ret2
      have hsr := Kd.S_lower HTI3.out.o.r (show w.heap.size ≤ gL + 1 from by have := HTI3.out.wl; omega); rw [List.length_append, List.length_singleton] at hsr; exact ⟨_, by rw [← HR2.out]; rfl, by rw [← HR1.out]; exact hsr, HTI3.out.below⟩
     ·rw [if_pos c3] at h
      obtain ⟨jr, hj, h⟩ := Option.bind_eq_some_iff.mp h; have HJ := Aside0.mk hj; have HJL := Aside0.mk hj; have HREST := Aside0.mk h; have HC3 := Aside0.mk c3; have c3b : decide ((3 : Int) < (left.length : Int)) = true := decide_eq_true (by omega); have c3c : ((3 : Int) < (left.length : Int)) = True := eq_true (by omega); obtain ⟨W2, rfl⟩ : ∃ W2, W2 = wr := ⟨_, rfl⟩; clear h H hj c3; go_wp2_with (first | ((with_reducible refine gate_dst (N := 34) rfl ?_); refine Kd.R_lit k25 _ 25 ?hg (N := 34) ?hd (xs := ([] : List (S25))) (inner := []) (ok := fun _ => True) (okp := fun _ => True) ?hr ?hp (fun _ hk => hk) trivial (Below.refl _ _) (Nat.le_refl _) (by simp) ?_; (case hd => rfl); (case hg => rfl); (case hr => first | (go_simp; done) | (go_simp; rfl)); (case hp => exact (Reps.none _ _)); intro v34 w34 ho13 hb hg_ hnew_; clear hg_ hnew_; have HNOW := Aside0.mk ho13; have HBW := Aside0.mk hb; clear hb ho13))
      go_loopg [9, 37] left.length (fun q v9 v37 w' => ∃ i : Nat, v37 = .int .i64 (i : Int) ∧ Aside0 (i + q = left.length) ∧ Aside0 (Kd.R k25 25 w' W2.heap.size (fun _ => True) v9 (trNow l0 (left.take i))) ∧ Aside0 (Below W2.heap.size W2 w'))
      case atStart => exact ⟨0, rfl, ⟨by omega⟩, HNOW, HBW⟩
      case round =>
       clear HNOW HBW c3b c3c; obtain ⟨i, rfl, HI, HNOW, HBW⟩ := hrel; rcases gk with _ | q2
       rotate_left
       ·have hlt : i < left.length := by have := HI.out; omega
        have ci0 : ((i : Int) < (left.length : Int)) = True := eq_true (by omega); have ci1 : decide ((i : Int) < (left.length : Int)) = true := decide_eq_true (by omega); have ci2 : (0 ≤ (i : Int)) = True := eq_true (by omega); have e1 : wrap64 ((i : Int) + 1) = ((i + 1 : Nat) : Int) := by have := HL.out.2.1; unfold wrap64; omega
        have E1 := Aside0.mk e1; obtain ⟨ad, ea, ha0⟩ := Kd.at_int (Kd.R_reads' HTI.out.rl).2.2 (i : Int) (by omega) (by omega); cases ea; have ha1 := it_cell HBW.out ha0; obtain ⟨b0, b1⟩ := trL_rd HL.out (i := (i : Int)) (by omega) (by omega); have hsnoc : trNow l0 (left.take (i + 1)) = trNow l0 (left.take i) ++ [rd_T25 l0 (rd left (i : Int))] := by
         unfold trNow
         rw [List.take_add_one, List.getElem?_eq_getElem hlt, List.map_append]; simp [rd, List.getD_eq_getElem?_getD, hlt]
        have HSN := Aside0.mk hsnoc; have hnl : (trNow l0 (left.take i)).length ≤ 10 := by unfold trNow; rw [List.length_map, List.length_take]; have := HL.out.2.1; omega
        have HNL := Aside0.mk hnl; clear e1 ha0 hsnoc hnl; (try simp only [Int.toNat_natCast, tr_add] at ha1); generalize rd left (i : Int) = x at ha1 b0 b1 HSN
        obtain ⟨adp, ep, hp0, hp1⟩ := at_T25 HR0.out x (by omega) (by omega); subst ep
        have hp2 := it_cell (below_step HTI.out.below HBW.out) hp0; have hp3 := it_cell (below_step HTI.out.below HBW.out) hp1; have b2 : (0 ≤ x) = True := eq_true b0; have b3 : (x < (l0.length : Int)) = True := eq_true b1; have b4 : decide (0 ≤ x) = true := decide_eq_true b0; have b5 : decide (x < (l0.length : Int)) = true := decide_eq_true b1; clear hp0 hp1 b0 b1; generalize rd_T25 l0 x = px at hp2 hp3 HSN
        go_wp2_with (first | ((with_reducible refine gate_builtin (b := .append) (xs := #[.tmp 41, .tmp 46]) rfl ?_); at_builtin; refine Kd.R_append k25 (w0 := W2) W2.heap.size rfl (.tmp 41) (.tmp 46) 33 25 (.agg #[(.int .i64 0), (.int .i64 0)]) 16 rfl Try.underlying33 info25 rfl (by decide) (by omega) u9 (trNow l0 (left.take i)) px [.int .i64 px.f0, .int .i64 px.f1] (fun _ => True) (fun _ => False) rfl rfl ?aP (fun _ hk => hk.elim) ?aF HNOW.out HBW.out ?aS ?aL ?_; (case aP => exact k25_mkM _ _ _ px); (case aF => exact (fun _ _ => trivial)); (case aS => exact HBW.out.size); (case aL => have := HNL.out; omega); intro v47 w48 ho hb hg hat; have HNOW2 := Aside0.mk ho; have HBW2 := Aside0.mk hb; clear HNOW HBW ho hb hg hat))
        go_roundg q2
        case measure => exact Nat.lt_succ_self _
        case rel => exact ⟨i + 1, congrArg _ E1.out, ⟨by have := HI.out; omega⟩, ⟨by rw [HSN.out]; exact HNOW2.out⟩, HBW2⟩
       ·have hi : i = left.length := by have := HI.out; omega
        subst hi
        rw [List.take_of_length_le (Nat.le_refl _)] at HNOW; have HNL := Aside0.mk (show (trNow l0 left).length = left.length from by unfold trNow; rw [List.length_map]); clear HI; obtain ⟨An, cn, rfl⟩ := Kd.R_slice HNOW.out; have HCN := Aside0.mk (Kd.R_reads' HNOW.out).2.1; generalize trNow l0 left = now at HJ HNOW HNL HCN
        obtain ⟨W3, rfl⟩ : ∃ W3, W3 = wr := ⟨_, rfl⟩; go_upto_block 6 with (fail)
        go_cut [12] (fun v12 wc => v12 = .int .i64 (jr : Int) ∧ Aside0 (Below W2.heap.size W2 wc))
        case first =>
         go_wp2_with (fail)
         go_loopg [12] left.length (fun q v12 w' => ∃ j : Nat, v12 = .int .i64 (j : Int) ∧ Aside0 (j + q = left.length) ∧ Aside0 (trEar k now q j = some jr) ∧ Aside0 (Below W3.heap.size W3 w'))
         case atStart => exact ⟨0, rfl, ⟨by omega⟩, HJ, ⟨Below.refl _ _⟩⟩
         case round =>
          clear HJ; obtain ⟨j, rfl, HI, HJ, HBJ⟩ := hrel; rcases gk with _ | q3
          ·have h2 := HJ.out
           rw [trEar] at h2; obtain rfl := Option.some.inj h2; have cj0 : ((j : Int) < (left.length : Int)) = False := eq_false (by have := HI.out; omega); have cj1 : decide ((j : Int) < (left.length : Int)) = false := decide_eq_false (by have := HI.out; omega); clear h2; go_wp2
           go_meet
           case rel => exact ⟨rfl, ⟨below_step HBW.out HBJ.out⟩⟩
          ·have hlt : j < left.length := by have := HI.out; omega
           have h2 := HJ.out; rw [trEar] at h2; obtain ⟨b, hb, h2⟩ := Option.bind_eq_some_iff.mp h2; have HBB := Aside0.mk hb; have HJ2 := Aside0.mk h2; have cj0 : ((j : Int) < (left.length : Int)) = True := eq_true (by omega); have cj1 : decide ((j : Int) < (left.length : Int)) = true := decide_eq_true (by omega); have e1 : wrap64 ((j : Int) + 1) = ((j + 1 : Nat) : Int) := by have := HL.out.2.1; unfold wrap64; omega
           have E1 := Aside0.mk e1; clear hb h2 HJ e1 hlt; cases b with
           | true =>
            obtain rfl := Option.some.inj (show some j = some jr from by have h3 := HJ2.out; rw [if_pos rfl] at h3; exact h3); go_wp2_with (first | (go_at_call 42; (with_reducible refine (impl_isEar.calls k An cn now (j : Int) true _ (Kd.C_below (Kd.R_reads' HNOW.out).2.2 HBJ.out) HCN.out HBB.out).mono ?_); rintro e w56 ⟨rfl, hb⟩; have HBJ2 := Aside0.mk (below_step HBJ.out hb); clear hb))
            go_meet
            case rel => exact ⟨rfl, ⟨below_step HBW.out HBJ2.out⟩⟩
           | false =>
            have HJ := Aside0.mk (show trEar k now q3 (j + 1) = some jr from by have h3 := HJ2.out; rw [if_neg (by simp)] at h3; exact h3); clear HJ2; go_wp2_with (first | (go_at_call 42; (with_reducible refine (impl_isEar.calls k An cn now (j : Int) false _ (Kd.C_below (Kd.R_reads' HNOW.out).2.2 HBJ.out) HCN.out HBB.out).mono ?_); rintro e w56 ⟨rfl, hb⟩; have HBJ2 := Aside0.mk (below_step HBJ.out hb); clear hb))
            go_roundg q3
            case measure => exact Nat.lt_succ_self _
            case rel => exact ⟨j + 1, congrArg _ E1.out, ⟨by have := HI.out; omega⟩, HJ, HBJ2⟩
        case rest =>
         clear HJ HNOW HBW; obtain ⟨rfl, HBW⟩ := hcut; by_cases cj : jr = left.length
         ·have cjb : ((jr : Int) == (left.length : Int)) = true := beq_iff_eq.mpr (by omega)
          have cjc : ((jr : Int) = (left.length : Int)) = True := eq_true (by omega); have h2 := HREST.out; rw [if_pos cj] at h2; obtain ⟨hr1, hr2⟩ := Prod.mk.inj (Option.some.inj h2); have HR1 := Aside0.mk hr1; have HR2 := Aside0.mk hr2; clear h2 hr1 hr2 cj; go_wp2
          go_ret2
          exact ⟨_, by rw [← HR2.out]; rfl, by rw [← HR1.out]; exact Kd.S_nil _ _ _ _ _, below_step HTI.out.below HBW.out⟩
         ·have cjb : ((jr : Int) == (left.length : Int)) = false := beq_eq_false_iff_ne.mpr (by omega)
          have cjc : ((jr : Int) = (left.length : Int)) = False := eq_false (by omega); have hjl : jr < left.length := by have := trEar_le HJL.out; omega
          have h2 := HREST.out; rw [if_neg cj] at h2; have HREST2 := Aside0.mk h2; obtain ⟨x1, x2⟩ := tr_idx (n := left.length) hjl HL.out.2.1; have X1 := Aside0.mk x1; have X2 := Aside0.mk x2; have hm1 := Nat.mod_lt (jr + left.length - 1) (show 0 < left.length by omega); have hm2 := Nat.mod_lt (jr + 1) (show 0 < left.length by omega); have hC := (Kd.R_reads' HTI.out.rl).2.2; obtain ⟨ad, ea, ha0⟩ := Kd.at_int hC (Int.tmod (wrap64 ((wrap64 ((jr : Int) + (left.length : Int))) - 1)) (left.length : Int)) (by rw [x1]; omega) (by rw [x1]; omega); obtain ⟨ad1, eb, ha1⟩ := Kd.at_int hC (jr : Int) (by omega) (by omega); obtain ⟨ad2, ec, ha2⟩ := Kd.at_int hC (Int.tmod (wrap64 ((jr : Int) + 1)) (left.length : Int)) (by rw [x2]; omega) (by rw [x2]; omega); cases ea; cases eb; cases ec; replace ha0 := it_cell HBW.out ha0; replace ha1 := it_cell HBW.out ha1; replace ha2 := it_cell HBW.out ha2; (try simp only [Int.toNat_natCast, tr_add] at ha1); (try simp only [tr_add] at ha0); (try simp only [tr_add] at ha2); have hcut : trTri (rd left (Int.tmod (wrap64 ((wrap64 ((jr : Int) + (left.length : Int))) - 1)) (left.length : Int))) (rd left (jr : Int)) (rd left (Int.tmod (wrap64 ((jr : Int) + 1)) (left.length : Int))) = trCut left jr := by rw [x1, x2]; rfl
          have HCUT := Aside0.mk hcut; have d0 : (0 ≤ Int.tmod (wrap64 ((wrap64 ((jr : Int) + (left.length : Int))) - 1)) (left.length : Int)) = True := eq_true (by rw [x1]; omega); have d1 : (Int.tmod (wrap64 ((wrap64 ((jr : Int) + (left.length : Int))) - 1)) (left.length : Int) < (left.length : Int)) = True := eq_true (by rw [x1]; omega); have d2 : (0 ≤ Int.tmod (wrap64 ((jr : Int) + 1)) (left.length : Int)) = True := eq_true (by rw [x2]; omega); have d3 : (Int.tmod (wrap64 ((jr : Int) + 1)) (left.length : Int) < (left.length : Int)) = True := eq_true (by rw [x2]; omega); have d4 : ((left.length : Int) = 0) = False := eq_false (by omega); have d5 : ((jr : Int) < (left.length : Int)) = True := eq_true (by omega); have d6 : (0 ≤ (jr : Int)) = True := eq_true (by omega); have d7 : ((left.length : Int) == 0) = false := beq_eq_false_iff_ne.mpr (by omega); have d8 : (left = []) = False := eq_false (fun e => by rw [e] at hjl; exact absurd hjl (by simp)); have HJ1 := Aside0.mk hjl; clear x1 x2 hm1 hm2 hC h2 hcut cj hjl; generalize rd left (Int.tmod (wrap64 ((wrap64 ((jr : Int) + (left.length : Int))) - 1)) (left.length : Int)) = ta at ha0 HCUT
          generalize rd left (jr : Int) = tb at ha1 HCUT
          generalize rd left (Int.tmod (wrap64 ((jr : Int) + 1)) (left.length : Int)) = tc at ha2 HCUT
          go_wp2
          refine start_ (n := 22) (S := fun w' => w'.cell? ⟨gL, (Int.tmod (wrap64 ((wrap64 ((jr : Int) + (left.length : Int))) - 1)) (left.length : Int)).toNat, none⟩ = some (.int .i64 ta) ∧ w'.cell? ⟨gL, jr, none⟩ = some (.int .i64 tb) ∧ w'.cell? ⟨gL, (Int.tmod (wrap64 ((jr : Int) + 1)) (left.length : Int)).toNat, none⟩ = some (.int .i64 tc)) (ds := []) (qE_ 22 impl_Triangulate.od1 0) (by kernel_rfl) rfl rfl ⟨ha0, ha1, ha2⟩ (fun hHeld => ?_); refine with_tabW tr15.tab24 tr15.bits24 (fun HT_ HW_ => ?_); have HTI2 : Aside0 (TrI w wc.drew gL cL gO vO1 left out) := ⟨(HTI.out.step HBW.out).step (below_drew1 (Below.refl wc.heap.size wc))⟩; clear HTI; generalize wc.drew = w20 at HTI2 hHeld ⊢
          iterate 21 (first | (refine gz_ HT_ ?zy ?zp ?_ (v := ?_) (a' := ?_); (case zy => intro w'; go_simp; with_reducible rfl); (case zp => simp only [Act.put, List.setIfInBounds_toArray, List.set_cons_zero, List.set_cons_succ, i64_w, i32_w]; rfl)) | (refine gt_ HT_ HW_ hHeld ?zy ?zp ?_ (v := ?_) (a' := ?_); (case zy => rintro w' s_; obtain ⟨s0, s1, s2⟩ := s_; go_simp; with_reducible rfl); (case zp => simp only [Act.put, List.setIfInBounds_toArray, List.set_cons_zero, List.set_cons_succ, i64_w, i32_w]; rfl)))
          refine one_ (i := 21) (N := some 84) (qE_ 22 impl_Triangulate.od1 22) rfl rfl (one_of HT_.out (by kernel_rfl)) (by decide) (fun K hK => ?_); refine trV_ 41 #[.pointer (some ⟨gO, 0, none⟩)] (enters_of Try.func41 (by kernel_rfl) rfl) #[.int .i64 ta, .int .i64 tb, .int .i64 tc] (by rfl) rfl rfl (by rfl) (by (try simp only [List.map_toArray, List.map_cons, List.map_nil]); first | done | rfl) ?_; refine (tr_tri ta tb tc _ (gL + 1) gO vO1 out HTI2.out.o (by have := HOL.out; omega)).mono ?_; rintro e w21 ⟨rfl, ⟨v1, hO⟩, hb1⟩
          have HTI3 := Aside0.mk (HTI2.out.tri hb1 hO); clear hO; refine ⟨_, rfl, ?_⟩; refine hK.out _ _ (⟨(hb1.cell (Nat.lt_succ_self gL)).trans hHeld.1, (hb1.cell (Nat.lt_succ_self gL)).trans hHeld.2.1, (hb1.cell (Nat.lt_succ_self gL)).trans hHeld.2.2⟩) (fun hHeld => ?_); clear hK K; refine norm_ (a' := ?_) ?_ ?_; rotate_left
          ·show Act.put _ (some 84) _ = _
           simp only [Act.put, List.setIfInBounds_toArray, List.set_cons_zero, List.set_cons_succ, i64_w, i32_w]; rfl
          refine done_ (done_of HT_.out (by kernel_rfl)) ?_; clear hHeld ha0 ha1 ha2 d0 d1 d2 d3 d4 d5 d6 d7 d8; have hdel := tr_delete w.heap.size gL cL (fun k => k = gL) left jr HJ1.out w21 HTI3.out.rl; have e1 : wrap64 ((jr : Int) + 1) = ((jr + 1 : Nat) : Int) := by have := HJ1.out; have := HL.out.2.1; unfold wrap64; omega
          rw [← e1] at hdel; have HDEL := Aside0.mk hdel; clear hdel e1; go_wp2_with (first | (go_at_call 43; refine (HDEL.out).mono ?_; rintro e w22 ⟨rfl, hr, hg⟩; have HTI4 := Aside0.mk (HTI3.out.del hr hg); clear hr hg))
          go_roundg q1
          case measure => exact Nat.lt_succ_self _
          case rel => exact ⟨left.eraseIdx jr, _, v1, rfl, ⟨by rw [HCUT.out]; exact HREST2.out⟩, ⟨trL_erase HL.out HC3.out HJ1.out⟩, ⟨by have h_ := List.length_eraseIdx_of_lt HJ1.out; have := HOL.out; have := HC3.out; rw [List.length_append, List.length_singleton]; omega⟩, HTI4⟩

-- NOT PRINTED: function 108 (impl_Point_108)

-- NOT PRINTED: function 72 (impl_Point_72)

/-! ### impl_areColored: function 44 -/
theorem ac_rd (xs : List S25) (i : Nat) (hi : i < xs.length) : rd_T25 xs (i : Int) = xs[i] := by
 unfold rd_T25
 rw [List.getD_eq_getElem?_getD, Int.toNat_natCast, List.getElem?_eq_getElem hi]
 rfl
set_option maxHeartbeats 2000000 in
theorem ac_index (g : Nat) (lb : Array Value) (eg : ∀ args w, (callFunc g args).run Try.prog w = .ok (.enter g args) w) (bs : S25 → Bool) (A : Option Addr) (c : Nat) (xs : List S25) (w : World)
  (hr : Kd.C k25 w A xs.length xs) (hp : ∀ (W : World) (p : S25), Below w.heap.size w W → p ∈ xs → Calls Try.prog g (#[.agg #[.int .i64 p.f0, .int .i64 p.f1]] ++ lb) W fun e w' => e = .returned (.bool (bs p)) ∧ Below W.heap.size W w') :
  Calls Try.prog 108 #[.slice A xs.length c, .func (.func g) #[] lb] w fun e w' => (∃ r : Int, e = .returned (.int .i64 r) ∧ decide (0 ≤ r) = xs.any bs) ∧ Below w.heap.size w w' := by
 have hn : xs.length ≤ 9223372036854775807 := hr.2.1
 have HR := Aside0.mk hr
 have HP := Aside0.mk hp
 have HB := Aside0.mk (Below.refl w.heap.size w)
 have hu := Try.underlying25
 clear hr hp
 go_enter Try.func108, Try.ntmps108
 go_wp2
 go_loopg [5, 8] xs.length (fun gg _ s8 wr => ∃ kk : Nat, kk ≤ xs.length ∧ xs.length - kk ≤ gg ∧ s8 = .int .i64 kk ∧ Aside0 (Below w.heap.size w wr) ∧ Aside0 ((xs.drop kk).any bs = xs.any bs))
 case atStart => exact ⟨0, Nat.zero_le _, by omega, rfl, HB, ⟨rfl⟩⟩
 case round =>
  obtain ⟨kk, hkk, hg, rfl, HB, HA⟩ := hrel; by_cases hlt : kk < xs.length
  ·have hltz : (kk : Int) < (xs.length : Int) := by omega
   obtain ⟨ad, e1, hc0, hc1⟩ := at_T25 HR.out (kk : Int) (by omega) (by omega); subst e1; simp only [Int.toNat_natCast] at hc0 hc1; have hcell0 := (HB.out.cell (World.block_lt_of_cell? w _ hc0)).trans hc0; have hcell1 := (HB.out.cell (World.block_lt_of_cell? w _ hc1)).trans hc1; clear hc0 hc1; have hmem : rd_T25 xs (kk : Int) ∈ xs := by
    rw [ac_rd xs kk hlt]; exact List.getElem_mem hlt
   have HCALL := Aside0.mk (HP.out wr _ HB.out hmem); have hany : (xs.drop kk).any bs = (bs (rd_T25 xs (kk : Int)) || (xs.drop (kk + 1)).any bs) := by
    rw [List.drop_eq_getElem_cons hlt, List.any_cons, ac_rd xs kk hlt]
   have HN := Aside0.mk hany; clear hmem hany; generalize rd_T25 xs (kk : Int) = y at hcell0 hcell1 HCALL HN; cases hq : bs y with
   | true =>
    have Q := Aside0.mk hq; clear hq; rw [Q.out] at HCALL; go_wp2_with fail; refine (HCALL.out).mono ?_; rintro e w1 ⟨rfl, hb1⟩; have HB1 := Aside0.mk (below_step HB.out hb1); clear hb1; go_wp2; go_ret
    exact ⟨⟨kk, rfl, by rw [← HA.out, HN.out, Q.out]; simp⟩, HB1.out⟩
   | false =>
    have Q := Aside0.mk hq; clear hq; rw [Q.out] at HCALL; go_wp2_with fail; refine (HCALL.out).mono ?_; rintro e w1 ⟨rfl, hb1⟩; have HB1 := Aside0.mk (below_step HB.out hb1); clear hb1; go_wp2; go_roundg (xs.length - (kk + 1))
    case measure => omega
    case rel =>
     refine ⟨kk + 1, by omega, by omega, by go_num, HB1, ⟨?_⟩⟩; rw [← HA.out, HN.out, Q.out]; rfl
  ·have hltz : ¬ (kk : Int) < (xs.length : Int) := by omega
   have hk2 : kk = xs.length := by omega
   have HK := Aside0.mk hk2; clear hk2; go_wp2; go_ret
   refine ⟨⟨-1, rfl, ?_⟩, HB.out⟩; rw [← HA.out, HK.out, List.drop_length]; rfl
set_option maxHeartbeats 1000000 in
theorem ac_contains (g : Nat) (lb : Array Value) (eg : ∀ args w, (callFunc g args).run Try.prog w = .ok (.enter g args) w) (bs : S25 → Bool) (A : Option Addr) (c : Nat) (xs : List S25) (w : World)
  (hr : Kd.C k25 w A xs.length xs) (hp : ∀ (W : World) (p : S25), Below w.heap.size w W → p ∈ xs → Calls Try.prog g (#[.agg #[.int .i64 p.f0, .int .i64 p.f1]] ++ lb) W fun e w' => e = .returned (.bool (bs p)) ∧ Below W.heap.size W w') :
  Calls Try.prog 72 #[.slice A xs.length c, .func (.func g) #[] lb] w fun e w' => e = .returned (.bool (xs.any bs)) ∧ Below w.heap.size w w' := by
 have HI := Aside0.mk (ac_index g lb eg bs A c xs w hr hp)
 clear hr hp
 go_enter Try.func72, Try.ntmps72
 go_wp2_with fail
 refine (HI.out).mono ?_
 rintro e w1 ⟨⟨r, rfl, hd⟩, hb⟩
 have HD := Aside0.mk hd
 have HB := Aside0.mk hb
 clear hd hb
 go_wp2
 go_ret
 exact ⟨by rw [← HD.out]; rfl, HB.out⟩
def acAll (on : S25 → Option Int) : List S25 → Option (List Int)
 | [] => some []
 | p :: ps => (on p).bind fun c => (acAll on ps).bind fun cs => some (c :: cs)
theorem acAll_mono {on on' : S25 → Option Int} (h : ∀ p, LeO (on p) (on' p)) : ∀ xs, LeO (acAll on xs) (acAll on' xs)
 | [] => LeO.refl _
 | p :: ps => LeO.bind (h p) (fun _ => LeO.bind (acAll_mono h ps) (fun _ => LeO.refl _))
theorem acAll_all {on : S25 → Option Int} : ∀ {xs : List S25} {cs : List Int}, acAll on xs = some cs → (∀ p ∈ xs, on p = some ((on p).getD 0)) ∧ (xs.any fun p => decide ((on p).getD 0 < 0)) = cs.any fun c => decide (c < 0)
 | [], cs, h => by
  obtain rfl := Option.some.inj h; exact ⟨fun _ hp => absurd hp (by simp), rfl⟩
 | p :: ps, cs, h => by
  obtain ⟨c, hc, h⟩ := Option.bind_eq_some_iff.mp h; obtain ⟨cs', hcs, h⟩ := Option.bind_eq_some_iff.mp h; obtain rfl := Option.some.inj h; obtain ⟨h1, h2⟩ := acAll_all hcs; refine ⟨fun q hq => ?_, by simp [h2, hc]⟩; rcases List.mem_cons.1 hq with rfl | hq
  ·rw [hc]; rfl
  ·exact h1 q hq
set_option maxHeartbeats 4000000 in
theorem ac_lit (k : Nat) (W : World) (b : Nat) (p : S25) (d x : Int) (hd : W.heap[b]? = some (.cells #[.int .i64 d] 3 (0, 0))) (h : impl_ColorOf.f k d p.f0 p.f1 = some x) :
  Calls Try.prog 73 (#[.agg #[.int .i64 p.f0, .int .i64 p.f1]] ++ #[.pointer (some ⟨b, 0, none⟩)]) W fun e w' => e = .returned (.bool (decide (x < 0))) ∧ Below W.heap.size W w' := by
 have hb1 := below_alloc (Below.refl W.heap.size W) (.cells #[.int .i64 p.f0, .int .i64 p.f1] 25)
 have hx : (W.alloc (.cells #[.int .i64 p.f0, .int .i64 p.f1] 25)).cell? ⟨b, 0, none⟩ = some (.int .i64 d) := by
  have : W.cell? ⟨b, 0, none⟩ = some (.int .i64 d) := by simp [World.cell?, hd]
  exact (hb1.cell (World.block_lt_of_cell? _ _ this)).trans this
 have HB := Aside0.mk hb1
 have HC := Aside0.mk h
 clear h hd hb1
 go_enter Try.func73, Try.ntmps73
 go_wp2_with (first | (go_at_call 9; refine (impl_ColorOf.calls k d p.f0 p.f1 x _ HC.out).mono ?_; rintro e w2 ⟨rfl, hb⟩; have HB2 := Aside0.mk (below_step HB.out hb); clear hb))
 go_ret
 exact ⟨rfl, HB2.out⟩
def impl_areColored.f (k : Nat) (a0 : Int) (l1 : List S25) : Option Bool := (acAll (fun p => impl_ColorOf.f k a0 p.f0 p.f1) l1).bind fun cs => some (!(cs.any fun c => decide (c < 0)))
theorem impl_areColored.mono : ∀ a0 l1 k, LeO (impl_areColored.f k a0 l1) (impl_areColored.f (k + 1) a0 l1) := by
 intro a0 l1 k
 unfold impl_areColored.f
 exact LeO.bind (acAll_mono (fun p => impl_ColorOf.mono _ _ _ k) l1) (fun _ => LeO.refl _)
set_option maxHeartbeats 4000000 in
theorem impl_areColored.calls (k : Nat) (a0 : Int) (A1 : Option Addr) (c1 : Nat) (l1 : List S25) (r : Bool) (w : World) (hr1 : Kd.C k25 w A1 l1.length l1) (hc1 : l1.length ≤ c1) (h : impl_areColored.f k a0 l1 = some r) :
  Calls Try.prog 44 #[.int .i64 a0, .slice A1 l1.length c1] w fun e w' => e = .returned (.bool r) ∧ Below w.heap.size w w' := by
 obtain ⟨cs, hcs, h2⟩ := Option.bind_eq_some_iff.mp h
 obtain rfl := Option.some.inj h2
 obtain ⟨h3, h4⟩ := acAll_all hcs
 have hb1 := below_alloc (Below.refl w.heap.size w) (.cells #[.int .i64 a0] 3)
 have hn1 : (w.alloc (.cells #[.int .i64 a0] 3)).heap[w.heap.size]? = some (.cells #[.int .i64 a0] 3 (0, 0)) := by
  show (w.heap.push _)[w.heap.size]? = _
  simp
 have HC := Aside0.mk (ac_contains 73 #[.pointer (some ⟨w.heap.size, 0, none⟩)] (enters_of Try.func73 (by kernel_rfl) rfl) (fun p => decide ((impl_ColorOf.f k a0 p.f0 p.f1).getD 0 < 0)) A1 c1 l1 (w.alloc (.cells #[.int .i64 a0] 3)) (Kd.C_below hr1 hb1)
  (fun W p hb hp => ac_lit k W w.heap.size p a0 _ ((hb.block _ (Array.getElem?_eq_some_iff.1 hn1).1).trans hn1) (h3 p hp)))
 rw [h4] at HC
 have HB := Aside0.mk hb1
 clear hr1 hc1 h h2 hcs h3 h4 hb1 hn1
 go_enter Try.func44, Try.ntmps44
 go_wp2_with fail
 refine (HC.out).mono ?_
 rintro e w1 ⟨rfl, hb⟩
 have HB2 := Aside0.mk (below_step HB.out hb)
 clear hb
 go_wp2
 go_ret
 exact ⟨rfl, HB2.out⟩

end Go.Proofs.Ytihnhpohbpfkmaa.XFnColors
