/- What functions of the program compute, as plain Lean functions, and that Go's calls come to just that: written by wip/tools/xprint.py for the law FnEdgecuts. -/
import Derived.Test.YthjiccclpalobaaDoorXFnEdgecutsx0
import Derived.Test.YthjiccclpalobaaDoorXFnEdgecutsx1
namespace Go.Proofs.YthjiccclpalobaaDoor.XFnEdgecuts
open Go.RowKit Go.Proofs.YthjiccclpalobaaDoorW.PrintWords Go.Proofs.YthjiccclpalobaaDoorW.PrintLast Go.Proofs.YthjiccclpalobaaDoorW.PrintMore
attribute [local go_sem] max2_int min2_int max_two min_two max_three min_three max_four min_four   -- for this text's walks alone
set_option linter.unusedVariables false
set_option linter.unusedSimpArgs false

/-! ### impl_PlanValue: function 10 -/
/-! PlanValue: a reader over a text, by two methods that call each other -/
def parseK (s : ByteArray) : Option Int := match Lib.atoiAll s.data.toList with
  | .ok v => if (⟨(Lib.itoa v).toArray⟩ : ByteArray).toList = s.toList then some v else none
  | _ => none
theorem pv_grow (w : World) (k : Nat) (os : Array Obj) : Below w.heap.size w (Sort.grow (w.drewN k) os) :=
  ⟨rfl, rfl, rfl, by show w.heap.size ≤ (w.heap ++ os).size; rw [Array.size_append]; omega, fun j hj => by show (w.heap ++ os)[j]? = _; exact Array.getElem?_append_left hj⟩
structure LdW (w : World) : Prop where
  tab : Lib.TabIs Tryd.prog w "internal/strconv.uint64pow10" .u64 Lib.pow10Tab
  syn : ∃ tp p, w.var? Tryd.prog "strconv.ErrSyntax" = some #[.iface tp p]
  rng : ∃ tp p, w.var? Tryd.prog "strconv.ErrRange" = some #[.iface tp p]
theorem LdW.below {w w' : World} (h : LdW w) (hb : Below w.heap.size w w') : LdW w' :=
  ⟨Joins.tab_stays (g := 1) (by kernel_rfl) h.tab hb (Nat.le_refl _), h.syn.imp fun _ h => h.imp fun _ h => Joins.var_stays (g := 2) (by kernel_rfl) h hb (Nat.le_refl _), h.rng.imp fun _ h => h.imp fun _ h => Joins.var_stays (g := 3) (by kernel_rfl) h hb (Nat.le_refl _)⟩
set_option maxHeartbeats 4000000 in
set_option maxRecDepth 100000 in
theorem pv_parse (s : ByteArray) (hs : s.size ≤ 2000) (w : World) (hL : LdW w) : Calls Tryd.prog 53 #[.string s] w fun e w' => e = .returned (.tuple #[.int .i64 ((parseK s).getD 0), .bool (parseK s).isSome]) ∧ Below w.heap.size w w' := by
  have HL := Aside0.mk hL
  have HS := Aside0.mk hs
  clear hL hs
  by_cases hn : ∃ v, Lib.atoiAll s.data.toList = .ok v
  · obtain ⟨v, ha⟩ := hn
    obtain ⟨b1, b2⟩ := Lib.atoiAll_bounds ha
    have hp : parseK s = if (⟨(Lib.itoa v).toArray⟩ : ByteArray).toList = s.toList then some v else none := by
      unfold parseK
      rw [ha]
    have HA := Aside0.mk ha
    have HP := Aside0.mk hp
    have B1 := Aside0.mk b1
    have B2 := Aside0.mk b2
    clear ha hp b1 b2
    go_enter Tryd.func53, Tryd.ntmps53
    go_wp2_with fail
    refine (Tryd.strconv_Atoi_ok s (by have := HS.out; omega) v HA.out w).mono ?_
    rintro e w1 ⟨rfl, hw1⟩
    have HB1 : Aside0 (Below w.heap.size w w1) := ⟨by
      rcases hw1 with rfl | ⟨t, rfl⟩
      · exact Below.refl _ _
      · exact Lib.bytesWorld_below _ _ _⟩
    clear hw1
    go_wp2_with fail
    refine (Tryd.strconv_Itoa v B1.out B2.out w1 (HL.out.below HB1.out).tab).mono ?_
    rintro e w2 ⟨rfl, k, os, hw2⟩
    have HB2 : Aside0 (Below w.heap.size w w2) := ⟨below_step HB1.out (by rw [hw2]; exact pv_grow _ _ _)⟩
    clear hw2
    obtain ⟨q, hq⟩ : ∃ q_, (⟨(Lib.itoa v).toArray⟩ : ByteArray) = q_ := ⟨_, rfl⟩
    rw [hq] at HP
    rw [hq]
    clear hq
    by_cases c : q.toList = s.toList
    · have cb0 : (q.toList == s.toList) = true := beq_iff_eq.mpr c
      have cb1 : (q.toList != s.toList) = false := bne_eq_false_iff_eq.mpr c
      have C := Aside0.mk c
      clear c
      go_wp2
      go_ret2
      rw [HP.out, if_pos C.out]
      exact ⟨rfl, HB2.out⟩
    · have cb0 : (q.toList == s.toList) = false := beq_eq_false_iff_ne.mpr c
      have cb1 : (q.toList != s.toList) = true := bne_iff_ne.mpr c
      have C := Aside0.mk c
      clear c
      go_wp2
      go_ret2
      rw [HP.out, if_neg C.out]
      exact ⟨rfl, HB2.out⟩
  · have hn : ∀ v, Lib.atoiAll s.data.toList ≠ .ok v := fun v hv => hn ⟨v, hv⟩
    have HP : Aside0 (parseK s = none) := ⟨by
      unfold parseK
      rcases hc : Lib.atoiAll s.data.toList with v | _ | _
      · exact absurd hc (hn v)
      · rfl
      · rfl⟩
    have HN := Aside0.mk hn
    clear hn
    obtain ⟨tp, p, hv⟩ := HL.out.syn
    obtain ⟨tq, q, hq⟩ := HL.out.rng
    have HV := Aside0.mk hv
    have HQ := Aside0.mk hq
    clear hv hq
    go_enter Tryd.func53, Tryd.ntmps53
    go_wp2_with fail
    refine (Tryd.atoi_err s (by have := HS.out; omega) HN.out tp p tq q w HV.out HQ.out).mono ?_
    rintro e w1 ⟨n, N, rfl, h3⟩
    have HB1 := Aside0.mk h3
    clear h3
    go_wp2
    go_ret2
    rw [HP.out]
    exact ⟨rfl, HB1.out⟩
def cutI (s : ByteArray) : Int := Lib.indexByte s.data.toList 40
def cutA (s : ByteArray) : ByteArray := if 0 ≤ cutI s then s.extract 0 (cutI s).toNat else s
def cutB (s : ByteArray) : ByteArray := if 0 ≤ cutI s then s.extract ((cutI s) + 1).toNat s.size else ⟨#[]⟩
theorem cutI_le (s : ByteArray) : -1 ≤ cutI s ∧ cutI s < s.size := by
  refine ⟨Lib.indexByte_ge _ _, ?_⟩
  rcases Int.lt_or_le (cutI s) 0 with h | h
  · omega
  · obtain ⟨n, hn⟩ : ∃ n : Nat, cutI s = n := ⟨(cutI s).toNat, by omega⟩
    have h1 := (Lib.indexByte_some (show Lib.indexByte s.data.toList 40 = (n : Int) from hn)).1
    have h2 := (List.getElem?_eq_some_iff.1 h1).1
    rw [hn]
    have : s.data.toList.length = s.size := Array.length_toList
    omega
set_option maxHeartbeats 4000000 in
set_option maxRecDepth 100000 in
theorem pv_index (s : ByteArray) (w : World) : Calls Tryd.prog 55 #[.string s, .string ⟨#[40]⟩] w fun e w' => e = .returned (.int .i64 (cutI s)) ∧ w' = w := by
  by_cases c : (⟨#[40]⟩ : ByteArray).toList = s.toList
  · have hz : cutI s = 0 := by
      unfold cutI
      have e : s.data.toList = [40] := by
        have := c.symm
        rw [ByteArray.toList_eq, ByteArray.toList_eq] at this
        exact this
      rw [e]
      rfl
    have HZ := Aside0.mk hz
    have cb0 : (([40] : List UInt8) == s.toList) = true := beq_iff_eq.mpr (by rw [← c, ByteArray.toList_eq])
    clear hz c
    go_enter Tryd.func55, Tryd.ntmps55
    go_wp2
    go_ret
    exact ⟨by rw [HZ.out]; rfl, rfl⟩
  · have cb0 : (([40] : List UInt8) == s.toList) = false := beq_eq_false_iff_ne.mpr (fun e => c (by rw [← e, ByteArray.toList_eq]))
    clear c
    go_enter Tryd.func55, Tryd.ntmps55
    go_wp2_with fail
    refine (show Calls Tryd.prog 61 #[.string s, .int .u8 ((((⟨#[40]⟩ : ByteArray)[0]'(by decide)).toNat : Nat) : Int)] w _ from Tryd.stringslite_IndexByte s 40 w).mono ?_
    rintro e w' ⟨rfl, rfl⟩
    rw [show Lib.indexByte s.data.toList (40 : Int).toNat.toUInt8 = cutI s from rfl]
    go_wp2
    go_ret
    exact ⟨rfl, rfl⟩
theorem pv_drew (w : World) (n : Nat) : Below w.heap.size w (w.drewN n) := ⟨rfl, rfl, rfl, Nat.le_refl _, fun _ _ => rfl⟩
set_option maxHeartbeats 4000000 in
set_option maxRecDepth 100000 in
theorem pv_cut0 (s : ByteArray) (hs : s.size ≤ 2000) (w : World) : Calls Tryd.prog 58 #[.string s, .string ⟨#[40]⟩] w fun e w' => e = .returned (.tuple #[.string (cutA s), .string (cutB s), .bool (decide (0 ≤ cutI s))]) ∧ Below w.heap.size w w' := by
  obtain ⟨i, hi⟩ : ∃ i_, cutI s = i_ := ⟨_, rfl⟩
  have hb := cutI_le s
  have hX := pv_index s w
  have hA : cutA s = if 0 ≤ i then s.extract 0 i.toNat else s := by unfold cutA; rw [hi]
  have hB : cutB s = if 0 ≤ i then s.extract (i + 1).toNat s.size else ⟨#[]⟩ := by unfold cutB; rw [hi]
  rw [hi] at hb hX ⊢
  have HA := Aside0.mk hA
  have HB := Aside0.mk hB
  have HX := Aside0.mk hX
  have hs2 : s.size ≤ 9223372036854775807 := by omega
  clear hA hB hX hi
  by_cases c : 0 ≤ i
  · have c0 : decide (0 ≤ i) = true := decide_eq_true c
    have c1 : (0 ≤ i) = True := eq_true c
    have c2 : (i ≤ (s.size : Int)) = True := eq_true (by omega)
    have c3 : (i + 1 ≤ (s.size : Int)) = True := eq_true (by omega)
    have c4 : (0 ≤ i + 1) = True := eq_true (by omega)
    have c5 : IntKind.i64.wrap (i + 1) = i + 1 := IntWalk.i64_in _ (by omega)
    have c6 : wrap64 (i + 1) = i + 1 := by unfold wrap64; omega
    have C := Aside0.mk c
    have HS := Aside0.mk hs
    clear hs hb
    clear c
    go_enter Tryd.func58, Tryd.ntmps58
    go_wp2_with (first | (go_at_call 55; refine (HX.out).mono ?_; rintro e w' ⟨rfl, rfl⟩) | go_in)
    go_quiet (fail)
    go_wp2
    go_ret3
    rw [HA.out, HB.out, if_pos C.out, if_pos C.out, c0]
    exact ⟨rfl, pv_drew _ _⟩
  · have c0 : decide (0 ≤ i) = false := decide_eq_false c
    have c1 : (0 ≤ i) = False := eq_false c
    have C := Aside0.mk c
    clear hs hb
    clear c
    go_enter Tryd.func58, Tryd.ntmps58
    go_wp2_with (first | (go_at_call 55; refine (HX.out).mono ?_; rintro e w' ⟨rfl, rfl⟩) | go_in)
    go_ret3
    rw [HA.out, HB.out, if_neg (by have := C.out; omega), if_neg (by have := C.out; omega), c0]
    exact ⟨rfl, Below.refl _ _⟩
set_option maxHeartbeats 4000000 in
set_option maxRecDepth 100000 in
theorem pv_cut (s : ByteArray) (hs : s.size ≤ 2000) (w : World) : Calls Tryd.prog 52 #[.string s, .string ⟨#[40]⟩] w fun e w' => e = .returned (.tuple #[.string (cutA s), .string (cutB s), .bool (decide (0 ≤ cutI s))]) ∧ Below w.heap.size w w' := by
  have HX := Aside0.mk (pv_cut0 s hs w)
  generalize cutA s = x at HX ⊢
  generalize cutB s = y at HX ⊢
  generalize decide (0 ≤ cutI s) = z at HX ⊢
  clear hs
  go_enter Tryd.func52, Tryd.ntmps52
  go_wp2_with (go_at_call 58; refine (HX.out).mono ?_; rintro e w' ⟨rfl, hb⟩)
  go_ret3
  exact ⟨rfl, hb⟩
mutual
def pv.value : Nat → List (List Int) → ByteArray → Int → Int → Option (Int × Bool × ByteArray)
  | 0, _, _, _, _ => none
  | k + 1, ps, s, a, b => if s.size = 0 then some (0, false, s) else (if bt s 0 = 46 then some (0, true, s.extract 1 s.size) else (if bt s 0 = 118 then pv.cut k ps (s.extract 1 s.size) a b true else (if bt s 0 = 104 then pv.cut k ps (s.extract 1 s.size) a b false else (if 97 ≤ bt s 0 ∧ bt s 0 - 97 < (ps.length : Int) then (if (rd_L2 ps (bt s 0 - 97)).length = 3 then some (rd (rd_L2 ps (bt s 0 - 97)) 2, (decide (rd (rd_L2 ps (bt s 0 - 97)) 0 = a) && decide (rd (rd_L2 ps (bt s 0 - 97)) 1 = b)), s.extract 1 s.size) else none) else some (0, false, s.extract 1 s.size)))))
def pv.cut : Nat → List (List Int) → ByteArray → Int → Int → Bool → Option (Int × Bool × ByteArray)
  | 0, _, _, _, _, _ => none
  | k + 1, ps, s, a, b, x => if (0 ≤ cutI s ∧ (parseK (cutA s)).isSome = true) ∧ 1 ≤ (parseK (cutA s)).getD 0 ∧ (parseK (cutA s)).getD 0 < (if x = true then a else b) then ((pv.value k ps (cutB s) (if x = true then (parseK (cutA s)).getD 0 else a) (if x = true then b else (parseK (cutA s)).getD 0)).bind fun t => if t.2.1 = true then ((pv.value k ps t.2.2 (if x = true then wrap64 (a - (parseK (cutA s)).getD 0) else a) (if x = true then b else wrap64 (b - (parseK (cutA s)).getD 0))).bind fun u => if u.2.1 = true ∧ Lib.hasPrefix u.2.2.data.toList [41] = true then some (wrap64 (t.1 + u.1), true, u.2.2.extract 1 u.2.2.size) else some (0, false, u.2.2)) else some (0, false, t.2.2)) else some (0, false, s)
end
theorem pv.mono_l : ∀ k, (∀ y0 y1 y2 y3, LeO (pv.value k y0 y1 y2 y3) (pv.value (k + 1) y0 y1 y2 y3)) ∧ (∀ y0 y1 y2 y3 y4, LeO (pv.cut k y0 y1 y2 y3 y4) (pv.cut (k + 1) y0 y1 y2 y3 y4))
  | 0 => ⟨fun _ _ _ _ r h => by simp [pv.value] at h, fun _ _ _ _ _ r h => by simp [pv.cut] at h⟩
  | k + 1 => by
    obtain ⟨ih0, ih1⟩ := pv.mono_l k
    refine ⟨?_, ?_⟩
    · intro y0 y1 y2 y3
      unfold pv.value
      repeat' first
        | (with_reducible exact ih1 _ _ _ _ _)
        | (with_reducible exact LeO.refl _)
        | (with_reducible refine LeO.ite ?_ ?_)
    · intro y0 y1 y2 y3 y4
      unfold pv.cut
      repeat' first
        | (with_reducible exact ih0 _ _ _ _)
        | (with_reducible exact LeO.refl _)
        | (with_reducible refine LeO.ite ?_ ?_)
        | (with_reducible refine LeO.bind ?_ (fun _ => ?_))
structure PvI (w0 W : World) (br : Nat) (v : Value) (s : ByteArray) : Prop where
  blk : W.heap[br]? = some (.cells #[v, .string s] 52 (0, 0))
  b : Below w0.heap.size w0 W
  base : w0.heap.size ≤ br
  len : s.size ≤ 2000
/-- Of what was there only the reader's block has turned. -/
structure PvF (br : Nat) (W W' : World) : Prop where
  size : W.heap.size ≤ W'.heap.size
  old : ∀ b, b < W.heap.size → b ≠ br → W'.heap[b]? = W.heap[b]?
section
variable {w0 W W' W2 : World} {br : Nat} {v : Value} {s t : ByteArray}
theorem PvF.refl : PvF br W W := ⟨Nat.le_refl _, fun _ _ _ => rfl⟩
theorem PvF.trans (h : PvF br W W') (g : PvF br W' W2) : PvF br W W2 := ⟨Nat.le_trans h.size g.size, fun b h1 h2 => (g.old b (Nat.lt_of_lt_of_le h1 h.size) h2).trans (h.old b h1 h2)⟩
theorem PvF.below (h : Below W.heap.size W W') : PvF br W W' := ⟨h.size, fun b h1 _ => h.block b h1⟩
theorem pv_lt {b : Nat} {o : Obj} (h : W.heap[b]? = some o) : b < W.heap.size := (Array.getElem?_eq_some_iff.1 h).1
theorem PvI.below (h : PvI w0 W br v s) (hb : Below W.heap.size W W') : PvI w0 W' br v s :=
  ⟨(hb.block _ (pv_lt h.blk)).trans h.blk, below_step h.b hb, h.base, h.len⟩
theorem PvI.cells (h : PvI w0 W br v s) : W.cell? ⟨br, 0, none⟩ = some v ∧ W.cell? ⟨br, 1, none⟩ = some (.string s) ∧ W.frozen? ⟨br, 1, none⟩ = false := by
  refine ⟨by simp [World.cell?, h.blk], by simp [World.cell?, h.blk], by simp [World.frozen?, h.blk]⟩
theorem PvI.set (h : PvI w0 W br v s) (ht : t.size ≤ 2000) : PvI w0 (W.setCell ⟨br, 1, none⟩ (.string t)) br v t ∧ PvF br W (W.setCell ⟨br, 1, none⟩ (.string t)) := by
  refine ⟨⟨?_, below_set h.b h.base, h.base, ht⟩, ⟨?_, fun b _ hb => Below.heap_setCell W ⟨br, 1, none⟩ _ b hb⟩⟩
  · show (W.heap.modify br _)[br]? = _
    rw [Array.getElem?_modify, if_pos rfl, h.blk]
    rfl
  · show W.heap.size ≤ (W.heap.modify br _).size
    rw [Array.size_modify]
    exact Nat.le_refl _
end
def PvPost (w0 W : World) (br : Nat) (v : Value) (r : Int × Bool × ByteArray) (e : Ending) (W' : World) : Prop :=
  e = .returned (.tuple #[.int .i64 r.1, .bool r.2.1]) ∧ PvI w0 W' br v r.2.2 ∧ PvF br W W'
def PvVal (k : Nat) : Prop := ∀ (w0 : World) (br : Nat) (A1 : Option Addr) (c1 : Nat) (l1 : List (List Int)) (_ : Kd.C (Kd.slice 3 (Kd.int .i64)) w0 A1 l1.length l1) (_ : l1.length ≤ c1) (_ : LdW w0) (W : World) (s : ByteArray) (a b : Int) (r : Int × Bool × ByteArray) (_ : PvI w0 W br (.slice A1 l1.length c1) s) (_ : pv.value k l1 s a b = some r),
  Calls Tryd.prog 29 #[.pointer (some ⟨br, 0, none⟩), .int .i64 a, .int .i64 b] W (PvPost w0 W br (.slice A1 l1.length c1) r)
def PvCut (k : Nat) : Prop := ∀ (w0 : World) (br : Nat) (A1 : Option Addr) (c1 : Nat) (l1 : List (List Int)) (_ : Kd.C (Kd.slice 3 (Kd.int .i64)) w0 A1 l1.length l1) (_ : l1.length ≤ c1) (_ : LdW w0) (W : World) (s : ByteArray) (a b : Int) (x : Bool) (r : Int × Bool × ByteArray) (_ : PvI w0 W br (.slice A1 l1.length c1) s) (_ : pv.cut k l1 s a b x = some r),
  Calls Tryd.prog 43 #[.pointer (some ⟨br, 0, none⟩), .int .i64 a, .int .i64 b, .bool x] W (PvPost w0 W br (.slice A1 l1.length c1) r)
set_option maxHeartbeats 8000000 in
set_option maxRecDepth 100000 in
theorem pv_value (k : Nat) (hcut : PvCut k) : PvVal (k + 1) := by
  intro w0 br A1 c1 l1 hr1 hc1 hL W s a b r hI h
  simp only [pv.value] at h
  have HCUT := Aside0.mk hcut
  have HR := Aside0.mk hr1
  have HC := Aside0.mk hc1
  have HL := Aside0.mk hL
  have HI := Aside0.mk hI

  obtain ⟨_, hx1, hx2⟩ := hI.cells
  have hlen := hI.len
  clear hcut hr1 hc1 hL hI
  by_cases c0 : s.size = 0
  · rw [if_pos c0] at h
    obtain rfl := Option.some.inj h
    have d1 : s.toList.isEmpty = true := by
      have e : s.data.toList.length = s.size := Array.length_toList
      rw [ByteArray.toList_eq, List.isEmpty_iff_length_eq_zero, e]
      exact c0
    clear c0 h hlen
    go_enter Tryd.func29, Tryd.ntmps29
    go_wp2
    go_ret2
    exact ⟨rfl, HI.out, PvF.refl⟩
  · rw [if_neg c0] at h
    have d1 : s.toList.isEmpty = false := by
      have e : s.data.toList.length = s.size := Array.length_toList
      rw [ByteArray.toList_eq, List.isEmpty_eq_false_iff, ← List.length_pos_iff, e]
      omega
    have hs1 : 1 ≤ s.size := by omega
    have hs2 : 0 < s.size := by omega
    have q1 : (1 : Int) ≤ (s.size : Int) := by omega
    have q2 : (0 : Int) < (s.size : Int) := by omega
    obtain ⟨t, ht⟩ : ∃ t_, s.extract 1 s.size = t_ := ⟨_, rfl⟩
    have htl : t.size ≤ 2000 := by rw [← ht, ByteArray.size_extract]; omega
    rw [ht] at h
    obtain ⟨c, hc⟩ : ∃ c_, bt s 0 = c_ := ⟨_, rfl⟩
    have hcr := bt_range s 0
    rw [hc] at h hcr
    have hc2 : ((s[0]'hs2).toNat : Int) = c := (bt_at s 0 hs2).trans hc
    have H := Aside0.mk h
    have HCR := Aside0.mk hcr
    clear h hc hcr c0 hlen
    go_enter Tryd.func29, Tryd.ntmps29
    go_upto_region 5 with (fail)
    have hS := HI.out.set htl
    have HI1 := Aside0.mk hS.1
    have HF1 := Aside0.mk hS.2
    clear hx1 hx2 HI hS q1 q2 hc2 ht d1
    generalize W.setCell ⟨br, 1, none⟩ (.string t) = W1 at HI1 HF1 ⊢
    obtain ⟨hx3, hx4, _⟩ := HI1.out.cells
    by_cases k1 : c = 46
    · have h := H.out
      rw [if_pos k1] at h
      obtain rfl := Option.some.inj h
      have e1 : (c == 46) = true := beq_iff_eq.mpr k1
      clear h H k1
      go_wp2
      go_ret2
      exact ⟨rfl, HI1.out, HF1.out⟩
    · have e1 : (c == 46) = false := beq_eq_false_iff_ne.mpr k1
      by_cases c2 : c = 118
      · have h := H.out
        rw [if_neg k1, if_pos c2] at h
        have e2 : (c == 118) = true := beq_iff_eq.mpr c2
        have HH := Aside0.mk h
        clear h H k1 c2
        go_wp2_with fail
        refine (HCUT.out w0 br A1 c1 l1 HR.out HC.out HL.out _ t a b true r HI1.out HH.out).mono ?_
        rintro e W2 ⟨rfl, g1, g2⟩
        have HG1 := Aside0.mk g1
        have HG2 := Aside0.mk g2
        clear g1 g2
        go_wp2
        go_ret2
        exact ⟨rfl, HG1.out, HF1.out.trans HG2.out⟩
      · have e2 : (c == 118) = false := beq_eq_false_iff_ne.mpr c2
        by_cases c3 : c = 104
        · have h := H.out
          rw [if_neg k1, if_neg c2, if_pos c3] at h
          have e3 : (c == 104) = true := beq_iff_eq.mpr c3
          have HH := Aside0.mk h
          clear h H k1 c2 c3
          go_wp2_with fail
          refine (HCUT.out w0 br A1 c1 l1 HR.out HC.out HL.out _ t a b false r HI1.out HH.out).mono ?_
          rintro e W2 ⟨rfl, g1, g2⟩
          have HG1 := Aside0.mk g1
          have HG2 := Aside0.mk g2
          clear g1 g2
          go_wp2
          go_ret2
          exact ⟨rfl, HG1.out, HF1.out.trans HG2.out⟩
        · have e3 : (c == 104) = false := beq_eq_false_iff_ne.mpr c3
          by_cases c4 : 97 ≤ c
          · have e4 : decide (97 ≤ c) = true := decide_eq_true c4
            have e4' : decide (c ≥ 97) = true := decide_eq_true c4
            have hw : (c - 97) % 256 = c - 97 := by have := HCR.out; omega
            have hw2 : IntKind.u8.wrap (c - 97) = c - 97 := by
              have := HCR.out
              show (c - 97) % 256 = c - 97
              omega
            have hw3 : IntKind.i64.wrap (c - 97) = c - 97 := IntWalk.i64_in _ (by have := HCR.out; omega)
            by_cases c5 : c - 97 < (l1.length : Int)
            · have h := H.out
              rw [if_neg k1, if_neg c2, if_neg c3, if_pos ⟨c4, c5⟩] at h
              have e5 : decide (c - 97 < (l1.length : Int)) = true := decide_eq_true c5
              by_cases c6 : (rd_L2 l1 (c - 97)).length = 3
              · rw [if_pos c6] at h
                have E5 := eq_true c5
                have E6 := eq_true (show 0 ≤ c - 97 by omega)
                obtain ⟨ad1, A5, c7, e7, hx5, _, hr5⟩ := at_L2 (Kd.C_below HR.out HI1.out.b) (c - 97) (by omega) c5
                cases e7
                rw [c6] at hx5 hr5
                obtain ⟨ad2, e6, hx6⟩ := Kd.at_int hr5 0 (by omega) (by omega)
                cases e6
                obtain ⟨ad3, e7, hx7⟩ := Kd.at_int hr5 1 (by omega) (by omega)
                cases e7
                obtain ⟨ad4, e8, hx8⟩ := Kd.at_int hr5 2 (by omega) (by omega)
                cases e8
                obtain ⟨q0, hq0⟩ : ∃ q_, rd (rd_L2 l1 (c - 97)) 0 = q_ := ⟨_, rfl⟩
                obtain ⟨q1, hq1⟩ : ∃ q_, rd (rd_L2 l1 (c - 97)) 1 = q_ := ⟨_, rfl⟩
                obtain ⟨q2, hq2⟩ : ∃ q_, rd (rd_L2 l1 (c - 97)) 2 = q_ := ⟨_, rfl⟩
                rw [hq0, hq1, hq2] at h
                rw [hq0] at hx6
                rw [hq1] at hx7
                rw [hq2] at hx8
                (try rw [show ((0 : Int)).toNat = 0 from rfl] at hx6)
                (try rw [Addr.add_zero'] at hx6)
                (try simp only [show (1 : Int).toNat = 1 from rfl, Nat.reduceMul, Nat.reduceEqDiff, Go.Addr.add, ↓reduceIte] at hx7)
                (try simp only [show (2 : Int).toNat = 2 from rfl, Nat.reduceMul, Nat.reduceEqDiff, Go.Addr.add, ↓reduceIte] at hx8)
                obtain rfl := Option.some.inj h
                clear hq0 hq1 hq2 hr5 h H k1 c2 c3 c4 c5 c6
                by_cases m0 : q0 = a
                · have f0 : (q0 == a) = true := beq_iff_eq.mpr m0
                  by_cases m1 : q1 = b
                  · have f1 : (q1 == b) = true := beq_iff_eq.mpr m1
                    have HM : Aside0 ((decide (q0 = a) && decide (q1 = b)) = true) := ⟨by simp [m0, m1]⟩
                    clear m0 m1
                    go_upto_region 11 with (fail)
                    go_quiet (fail)
                    go_wp2
                    go_ret2
                    exact ⟨by show _ = Ending.returned (.tuple #[.int .i64 q2, .bool (decide (q0 = a) && decide (q1 = b))]); rw [HM.out]; rfl, HI1.out.below (pv_drew _ _), HF1.out.trans (PvF.below (pv_drew _ _))⟩
                  · have f1 : (q1 == b) = false := beq_eq_false_iff_ne.mpr m1
                    have HM : Aside0 ((decide (q0 = a) && decide (q1 = b)) = false) := ⟨by simp [m1]⟩
                    clear m0 m1
                    go_upto_region 11 with (fail)
                    go_quiet (fail)
                    go_wp2
                    go_ret2
                    exact ⟨by show _ = Ending.returned (.tuple #[.int .i64 q2, .bool (decide (q0 = a) && decide (q1 = b))]); rw [HM.out]; rfl, HI1.out.below (pv_drew _ _), HF1.out.trans (PvF.below (pv_drew _ _))⟩
                · have f0 : (q0 == a) = false := beq_eq_false_iff_ne.mpr m0
                  have HM : Aside0 ((decide (q0 = a) && decide (q1 = b)) = false) := ⟨by simp [m0]⟩
                  clear m0
                  go_upto_region 11 with (fail)
                  go_quiet (fail)
                  go_wp2
                  go_ret2
                  exact ⟨by show _ = Ending.returned (.tuple #[.int .i64 q2, .bool (decide (q0 = a) && decide (q1 = b))]); rw [HM.out]; rfl, HI1.out.below (pv_drew _ _), HF1.out.trans (PvF.below (pv_drew _ _))⟩
              · rw [if_neg c6] at h
                cases h
            · have h := H.out
              rw [if_neg k1, if_neg c2, if_neg c3, if_neg (fun e => c5 e.2)] at h
              obtain rfl := Option.some.inj h
              have e5 : decide (c - 97 < (l1.length : Int)) = false := decide_eq_false c5
              clear h H k1 c2 c3 c4 c5
              go_wp2
              go_ret2
              exact ⟨rfl, HI1.out, HF1.out⟩
          · have e4 : decide (97 ≤ c) = false := decide_eq_false c4
            have e4' : decide (c ≥ 97) = false := decide_eq_false c4
            have h := H.out
            rw [if_neg k1, if_neg c2, if_neg c3, if_neg (fun e => c4 e.1)] at h
            obtain rfl := Option.some.inj h
            clear h H k1 c2 c3 c4
            go_wp2
            go_ret2
            exact ⟨rfl, HI1.out, HF1.out⟩
theorem pv_prefix (s : ByteArray) (w : World) : Calls Tryd.prog 54 #[.string s, .string ⟨#[41]⟩] w fun e w' => e = .returned (.bool (Lib.hasPrefix s.data.toList [41])) ∧ w' = w := Tryd.strings_HasPrefix s ⟨#[41]⟩ w
theorem pv_prefix_len {s : ByteArray} (h : Lib.hasPrefix s.data.toList [41] = true) : 1 ≤ s.size := by
  have e : s.data.toList.length = s.size := Array.length_toList
  rcases Nat.eq_zero_or_pos s.size with h0 | h0
  · rw [List.eq_nil_of_length_eq_zero (e.trans h0)] at h
    exact absurd h (by decide)
  · exact h0
theorem pv_new (W : World) (o : Obj) : (W.alloc o).heap[W.heap.size]? = some o := by
  show (W.heap.push _)[W.heap.size]? = _
  simp
theorem pv_sides {W : World} {bs : Nat} {x0 x1 x2 x3 : Value} {T : Nat} {p : Nat × Nat} (h : W.heap[bs]? = some (.cells #[x0, x1, x2, x3] T p)) : W.cell? ⟨bs, 0, none⟩ = some x0 ∧ W.cell? ⟨bs, 1, none⟩ = some x1 ∧ W.cell? ⟨bs, 2, none⟩ = some x2 ∧ W.cell? ⟨bs, 3, none⟩ = some x3 := by
  refine ⟨by simp [World.cell?, h], by simp [World.cell?, h], by simp [World.cell?, h], by simp [World.cell?, h]⟩
set_option maxHeartbeats 8000000 in
set_option maxRecDepth 100000 in
theorem pv_cutm (k : Nat) (hval : PvVal k) : PvCut (k + 1) := by
  intro w0 br A1 c1 l1 hr1 hc1 hL W s a b x r hI h
  simp only [pv.cut] at h
  have HVAL := Aside0.mk (hval w0 br A1 c1 l1 hr1 hc1 hL)
  have HL := Aside0.mk hL
  have HI := Aside0.mk hI
  obtain ⟨_, hx1, _⟩ := hI.cells
  have hlen := hI.len
  have HCUT := Aside0.mk (pv_cut s hlen W)
  have hA : (cutA s).size ≤ 2000 := by
    unfold cutA
    split
    · rw [ByteArray.size_extract]; omega
    · exact hlen
  have hB : (cutB s).size ≤ 2000 := by
    unfold cutB
    split
    · rw [ByteArray.size_extract]; omega
    · exact Nat.zero_le _
  have HPARSE := Aside0.mk (fun w h => pv_parse (cutA s) hA w h)
  generalize cutI s = ci at h HCUT
  generalize cutB s = t at h HCUT hB
  generalize cutA s = u at h HCUT HPARSE
  generalize (parseK u).getD 0 = n at h HPARSE
  generalize (parseK u).isSome = g at h HPARSE
  have HB := Aside0.mk hB
  have H := Aside0.mk h
  clear hval hL hI hlen hA hB h hr1 hc1
  obtain ⟨f, hf⟩ : ∃ f_, decide (0 ≤ ci) = f_ := ⟨_, rfl⟩
  rw [hf] at HCUT
  have HF := Aside0.mk hf
  clear hf
  go_enter Tryd.func43, Tryd.ntmps43
  go_wp2_with fail
  refine (HCUT.out).mono ?_
  rintro e W1 ⟨rfl, hb1⟩
  have HI1 := Aside0.mk (HI.out.below hb1)
  have HF1 := Aside0.mk (show PvF br W W1 from PvF.below hb1)
  clear hb1 hx1 HI HCUT
  go_wp2_with fail
  refine (HPARSE.out W1 (HL.out.below HI1.out.b)).mono ?_
  rintro e W2 ⟨rfl, hb2⟩
  have HI2 := Aside0.mk (HI1.out.below hb2)
  have HF2 := Aside0.mk (HF1.out.trans (PvF.below hb2))
  clear hb2 HI1 HF1 HPARSE
  obtain ⟨hx2, hx3, hx4⟩ := HI2.out.cells
  by_cases c0 : (0 ≤ ci ∧ g = true) ∧ 1 ≤ n ∧ n < (if x = true then a else b)
  · have h := H.out
    rw [if_pos c0] at h
    obtain ⟨⟨d0, rfl⟩, d1, d2⟩ := c0
    obtain rfl : f = true := by rw [← HF.out]; exact decide_eq_true d0
    have q0 : decide (n < 1) = false := decide_eq_false (by omega)
    cases x with
    | true =>
      simp only [if_true] at h d2
      have q1 : decide (a ≤ n) = false := decide_eq_false (by omega)
      have q2 : decide (n ≥ a) = false := decide_eq_false (by omega)
      have HH := Aside0.mk h
      have D1 := Aside0.mk d1
      have D2 := Aside0.mk d2
      clear h H d0 d1 d2 HF
      go_upto_region 6 with (fail)
      have hS := HI2.out.set HB.out
      have HI3 := Aside0.mk hS.1
      have HF3 := Aside0.mk (HF2.out.trans hS.2)
      clear hx2 hx3 hx4 HI2 HF2 hS
      generalize W2.setCell ⟨br, 1, none⟩ (.string t) = W3 at HI3 HF3 ⊢
      go_upto_region 9 with (fail)
      obtain ⟨d, hd⟩ : ∃ d_, wrap64 (a - n) = d_ := ⟨_, rfl⟩
      rw [hd] at HH ⊢
      have hI4 := HI3.out.below (below_alloc (Below.refl _ _) (.cells #[.int .i64 n, .int .i64 b, .int .i64 d, .int .i64 b] 76))
      have hF4 := HF3.out.trans (PvF.below (below_alloc (Below.refl _ _) (.cells #[.int .i64 n, .int .i64 b, .int .i64 d, .int .i64 b] 76)))
      have hsd := pv_new W3 (.cells #[.int .i64 n, .int .i64 b, .int .i64 d, .int .i64 b] 76)
      obtain ⟨bs, hbs⟩ : ∃ b_, W3.heap.size = b_ := ⟨_, rfl⟩
      have hne : bs ≠ br := by have := pv_lt HI3.out.blk; omega
      rw [hbs] at hsd ⊢
      clear hbs hd
      generalize W3.alloc (.cells #[.int .i64 n, .int .i64 b, .int .i64 d, .int .i64 b] 76) = W4 at hI4 hF4 hsd ⊢
      have HI4 := Aside0.mk hI4
      have HF4 := Aside0.mk hF4
      have HNE := Aside0.mk hne
      have HSD := Aside0.mk hsd
      obtain ⟨hs0, hs1, hs2, hs3⟩ := pv_sides hsd
      obtain ⟨⟨v1, o1, s1⟩, h1, h⟩ := Option.bind_eq_some_iff.mp HH.out
      have H1 := Aside0.mk h1
      have H2 := Aside0.mk h
      have HI5 := Aside0.mk (hI4.below (pv_drew W4 1))
      clear hI4 hF4 hsd hne h1 h HH HI3 HF3
      go_region_held3 (fun w' => w'.cell? ⟨bs, 0, none⟩ = some (.int .i64 n) ∧ w'.cell? ⟨bs, 1, none⟩ = some (.int .i64 b)) (first | exact ⟨hs0, hs1⟩ | exact ⟨hs4, hs5⟩) (first | (go_at_call 29; refine (HVAL.out W4.drew t n b (v1, o1, s1) HI5.out H1.out).mono ?_; rintro e W5 ⟨rfl, g1, g2⟩; have HI6 := Aside0.mk g1; have HF6 := Aside0.mk (HF4.out.trans ((PvF.below (pv_drew W4 1)).trans g2)); have HSD6 := Aside0.mk ((g2.old _ (pv_lt HSD.out) HNE.out).trans HSD.out); clear g1 g2; obtain ⟨hs4, hs5, hs6, hs7⟩ := pv_sides HSD6.out))
      clear hs0 hs1 hs2 hs3 hs4 hs5 HI4 HF4 HSD HI5 H1
      cases o1 with
      | false =>
        have h := H2.out
        simp only [Bool.false_eq_true, if_false] at h
        obtain rfl := Option.some.inj h
        clear h H2
        go_wp2
        go_ret2
        exact ⟨rfl, HI6.out, HF6.out⟩
      | true =>
        have h := H2.out
        simp only [if_true] at h
        obtain ⟨⟨v2, o2, s2⟩, h2, h⟩ := Option.bind_eq_some_iff.mp h
        have H3 := Aside0.mk h2
        have H4 := Aside0.mk h
        have HI7 := Aside0.mk (HI6.out.below (pv_drew W5 1))
        clear h h2 H2
        go_upto_region 12 with (fail)
        go_region_held3 (fun w' => w'.cell? ⟨bs, 2, none⟩ = some (.int .i64 d) ∧ w'.cell? ⟨bs, 3, none⟩ = some (.int .i64 b)) (first | exact ⟨hs6, hs7⟩ | exact ⟨hs8, hs9⟩) (first | (go_at_call 29; refine (HVAL.out W5.drew s1 d b (v2, o2, s2) HI7.out H3.out).mono ?_; rintro e W6 ⟨rfl, g1, g2⟩; have HI8 := Aside0.mk g1; have HF8 := Aside0.mk (HF6.out.trans ((PvF.below (pv_drew W5 1)).trans g2)); have HSD8 := Aside0.mk ((g2.old _ (pv_lt HSD6.out) HNE.out).trans HSD6.out); clear g1 g2; obtain ⟨_, _, hs8, hs9⟩ := pv_sides HSD8.out))
        clear hs6 hs7 hs8 hs9 HI6 HF6 HSD6 HI7 H3
        cases o2 with
        | false =>
          have h := H4.out
          simp only [Bool.false_eq_true, false_and, if_false] at h
          obtain rfl := Option.some.inj h
          clear h H4
          go_wp2
          go_ret2
          exact ⟨rfl, HI8.out, HF8.out⟩
        | true =>
          have h := H4.out
          simp only [true_and] at h
          have H5 := Aside0.mk h
          obtain ⟨_, hx5, hx6⟩ := HI8.out.cells
          clear h H4
          go_wp2_with fail
          refine (pv_prefix s2 W6).mono ?_
          rintro e w' ⟨rfl, rfl⟩
          by_cases m : Lib.hasPrefix s2.data.toList [41] = true
          · have h := H5.out
            rw [if_pos m] at h
            obtain rfl := Option.some.inj h
            have hz := pv_prefix_len m
            have q3 : (1 : Int) ≤ (s2.size : Int) := by omega
            have hl8 := HI8.out.len
            have HS8 := Aside0.mk (HI8.out.set (t := s2.extract 1 s2.size) (by rw [ByteArray.size_extract]; omega))
            clear h H5 hl8
            rw [m]
            clear m
            go_wp2
            go_ret2
            exact ⟨rfl, HS8.out.1, HF8.out.trans HS8.out.2⟩
          · have h := H5.out
            rw [if_neg m] at h
            obtain rfl := Option.some.inj h
            rw [Bool.eq_false_iff.mpr m]
            clear h H5 m
            go_wp2
            go_ret2
            exact ⟨rfl, HI8.out, HF8.out⟩
    | false =>
      simp only [Bool.false_eq_true, if_false] at h d2
      have q1 : decide (b ≤ n) = false := decide_eq_false (by omega)
      have q2 : decide (n ≥ b) = false := decide_eq_false (by omega)
      have HH := Aside0.mk h
      have D1 := Aside0.mk d1
      have D2 := Aside0.mk d2
      clear h H d0 d1 d2 HF
      go_upto_region 6 with (fail)
      have hS := HI2.out.set HB.out
      have HI3 := Aside0.mk hS.1
      have HF3 := Aside0.mk (HF2.out.trans hS.2)
      clear hx2 hx3 hx4 HI2 HF2 hS
      generalize W2.setCell ⟨br, 1, none⟩ (.string t) = W3 at HI3 HF3 ⊢
      go_upto_region 7 with (fail)
      obtain ⟨d0, hd0⟩ : ∃ d_, wrap64 (a - n) = d_ := ⟨_, rfl⟩
      rw [hd0]
      have hI9 := HI3.out.below (below_alloc (Below.refl _ _) (.cells #[.int .i64 n, .int .i64 b, .int .i64 d0, .int .i64 b] 76))
      have hF9 := HF3.out.trans (PvF.below (below_alloc (Below.refl _ _) (.cells #[.int .i64 n, .int .i64 b, .int .i64 d0, .int .i64 b] 76)))
      clear hd0
      generalize W3.alloc (.cells #[.int .i64 n, .int .i64 b, .int .i64 d0, .int .i64 b] 76) = W9 at hI9 hF9 ⊢
      have HI9 := Aside0.mk hI9
      have HF9 := Aside0.mk hF9
      clear hI9 hF9 HI3 HF3
      go_upto_region 9 with (fail)
      obtain ⟨d, hd⟩ : ∃ d_, wrap64 (b - n) = d_ := ⟨_, rfl⟩
      rw [hd] at HH ⊢
      have hI4 := HI9.out.below (below_alloc (Below.refl _ _) (.cells #[.int .i64 a, .int .i64 n, .int .i64 a, .int .i64 d] 76))
      have hF4 := HF9.out.trans (PvF.below (below_alloc (Below.refl _ _) (.cells #[.int .i64 a, .int .i64 n, .int .i64 a, .int .i64 d] 76)))
      have hsd := pv_new W9 (.cells #[.int .i64 a, .int .i64 n, .int .i64 a, .int .i64 d] 76)
      obtain ⟨bs, hbs⟩ : ∃ b_, W9.heap.size = b_ := ⟨_, rfl⟩
      have hne : bs ≠ br := by have := pv_lt HI9.out.blk; omega
      rw [hbs] at hsd ⊢
      clear hbs hd
      generalize W9.alloc (.cells #[.int .i64 a, .int .i64 n, .int .i64 a, .int .i64 d] 76) = W4 at hI4 hF4 hsd ⊢
      have HI4 := Aside0.mk hI4
      have HF4 := Aside0.mk hF4
      have HNE := Aside0.mk hne
      have HSD := Aside0.mk hsd
      obtain ⟨hs0, hs1, hs2, hs3⟩ := pv_sides hsd
      obtain ⟨⟨v1, o1, s1⟩, h1, h⟩ := Option.bind_eq_some_iff.mp HH.out
      have H1 := Aside0.mk h1
      have H2 := Aside0.mk h
      have HI5 := Aside0.mk (hI4.below (pv_drew W4 1))
      clear hI4 hF4 hsd hne h1 h HH HI9 HF9
      go_region_held3 (fun w' => w'.cell? ⟨bs, 0, none⟩ = some (.int .i64 a) ∧ w'.cell? ⟨bs, 1, none⟩ = some (.int .i64 n)) (first | exact ⟨hs0, hs1⟩ | exact ⟨hs4, hs5⟩) (first | (go_at_call 29; refine (HVAL.out W4.drew t a n (v1, o1, s1) HI5.out H1.out).mono ?_; rintro e W5 ⟨rfl, g1, g2⟩; have HI6 := Aside0.mk g1; have HF6 := Aside0.mk (HF4.out.trans ((PvF.below (pv_drew W4 1)).trans g2)); have HSD6 := Aside0.mk ((g2.old _ (pv_lt HSD.out) HNE.out).trans HSD.out); clear g1 g2; obtain ⟨hs4, hs5, hs6, hs7⟩ := pv_sides HSD6.out))
      clear hs0 hs1 hs2 hs3 hs4 hs5 HI4 HF4 HSD HI5 H1
      cases o1 with
      | false =>
        have h := H2.out
        simp only [Bool.false_eq_true, if_false] at h
        obtain rfl := Option.some.inj h
        clear h H2
        go_wp2
        go_ret2
        exact ⟨rfl, HI6.out, HF6.out⟩
      | true =>
        have h := H2.out
        simp only [if_true] at h
        obtain ⟨⟨v2, o2, s2⟩, h2, h⟩ := Option.bind_eq_some_iff.mp h
        have H3 := Aside0.mk h2
        have H4 := Aside0.mk h
        have HI7 := Aside0.mk (HI6.out.below (pv_drew W5 1))
        clear h h2 H2
        go_upto_region 12 with (fail)
        go_region_held3 (fun w' => w'.cell? ⟨bs, 2, none⟩ = some (.int .i64 a) ∧ w'.cell? ⟨bs, 3, none⟩ = some (.int .i64 d)) (first | exact ⟨hs6, hs7⟩ | exact ⟨hs8, hs9⟩) (first | (go_at_call 29; refine (HVAL.out W5.drew s1 a d (v2, o2, s2) HI7.out H3.out).mono ?_; rintro e W6 ⟨rfl, g1, g2⟩; have HI8 := Aside0.mk g1; have HF8 := Aside0.mk (HF6.out.trans ((PvF.below (pv_drew W5 1)).trans g2)); have HSD8 := Aside0.mk ((g2.old _ (pv_lt HSD6.out) HNE.out).trans HSD6.out); clear g1 g2; obtain ⟨_, _, hs8, hs9⟩ := pv_sides HSD8.out))
        clear hs6 hs7 hs8 hs9 HI6 HF6 HSD6 HI7 H3
        cases o2 with
        | false =>
          have h := H4.out
          simp only [Bool.false_eq_true, false_and, if_false] at h
          obtain rfl := Option.some.inj h
          clear h H4
          go_wp2
          go_ret2
          exact ⟨rfl, HI8.out, HF8.out⟩
        | true =>
          have h := H4.out
          simp only [true_and] at h
          have H5 := Aside0.mk h
          obtain ⟨_, hx5, hx6⟩ := HI8.out.cells
          clear h H4
          go_wp2_with fail
          refine (pv_prefix s2 W6).mono ?_
          rintro e w' ⟨rfl, rfl⟩
          by_cases m : Lib.hasPrefix s2.data.toList [41] = true
          · have h := H5.out
            rw [if_pos m] at h
            obtain rfl := Option.some.inj h
            have hz := pv_prefix_len m
            have q3 : (1 : Int) ≤ (s2.size : Int) := by omega
            have hl8 := HI8.out.len
            have HS8 := Aside0.mk (HI8.out.set (t := s2.extract 1 s2.size) (by rw [ByteArray.size_extract]; omega))
            clear h H5 hl8
            rw [m]
            clear m
            go_wp2
            go_ret2
            exact ⟨rfl, HS8.out.1, HF8.out.trans HS8.out.2⟩
          · have h := H5.out
            rw [if_neg m] at h
            obtain rfl := Option.some.inj h
            rw [Bool.eq_false_iff.mpr m]
            clear h H5 m
            go_wp2
            go_ret2
            exact ⟨rfl, HI8.out, HF8.out⟩
  · have h := H.out
    rw [if_neg c0] at h
    obtain rfl := Option.some.inj h
    clear h H
    cases f with
    | false =>
      clear c0 HF
      go_wp2
      go_ret2
      exact ⟨rfl, HI2.out, HF2.out⟩
    | true =>
      cases g with
      | false =>
        clear c0 HF
        go_wp2
        go_ret2
        exact ⟨rfl, HI2.out, HF2.out⟩
      | true =>
        have hci : 0 ≤ ci := of_decide_eq_true HF.out
        by_cases c2 : n < 1
        · have q0 : decide (n < 1) = true := decide_eq_true c2
          clear c0 c2 HF hci
          go_wp2
          go_ret2
          exact ⟨rfl, HI2.out, HF2.out⟩
        · have q0 : decide (n < 1) = false := decide_eq_false c2
          cases x with
          | true =>
            have c3 : a ≤ n := by
              rcases Int.lt_or_le n a with e | e
              · exact absurd ⟨⟨hci, rfl⟩, by omega, e⟩ c0
              · exact e
            have q1 : decide (a ≤ n) = true := decide_eq_true c3
            have q2 : decide (n ≥ a) = true := decide_eq_true c3
            clear c0 c2 c3 HF hci
            go_wp2
            go_ret2
            exact ⟨rfl, HI2.out, HF2.out⟩
          | false =>
            have c3 : b ≤ n := by
              rcases Int.lt_or_le n b with e | e
              · exact absurd ⟨⟨hci, rfl⟩, by omega, e⟩ c0
              · exact e
            have q1 : decide (b ≤ n) = true := decide_eq_true c3
            have q2 : decide (n ≥ b) = true := decide_eq_true c3
            clear c0 c2 c3 HF hci
            go_wp2
            go_ret2
            exact ⟨rfl, HI2.out, HF2.out⟩
theorem pv_both (k : Nat) : PvVal k ∧ PvCut k := by
  induction k with
  | zero => exact ⟨fun _ _ _ _ _ _ _ _ _ _ _ _ _ _ h => by simp [pv.value] at h, fun _ _ _ _ _ _ _ _ _ _ _ _ _ _ _ h => by simp [pv.cut] at h⟩
  | succ k ih => exact ⟨pv_value k ih.2, pv_cutm k ih.1⟩
def impl_PlanValue.f (k : Nat) (a0 a1 : Int) (l2 : List (List Int)) (s3 : ByteArray) : Option Int := (impl_isPlate.f a0 a1 l2).bind fun t => if t = true then (if s3.size ≤ 2000 then ((pv.value k l2 s3 a0 a1).bind fun r => if r.2.1 = true ∧ r.2.2.size = 0 then some r.1 else some (-1)) else some (-1)) else some (-1)
theorem impl_PlanValue.mono : ∀ a0 a1 a2 a3 k, LeO (impl_PlanValue.f k a0 a1 a2 a3) (impl_PlanValue.f (k + 1) a0 a1 a2 a3) := by
  intro a0 a1 a2 a3 k
  unfold impl_PlanValue.f
  exact LeO.bind (LeO.refl _) (fun _ => LeO.ite (LeO.ite (LeO.bind ((pv.mono_l k).1 _ _ _ _) (fun _ => LeO.refl _)) (LeO.refl _)) (LeO.refl _))
theorem pv_empty (s : ByteArray) : s.toList.isEmpty = decide (s.size = 0) := by
  have e : s.data.toList.length = s.size := Array.length_toList
  rw [ByteArray.toList_eq]
  cases hl : s.data.toList with
  | nil =>
    rw [hl] at e
    have : s.size = 0 := e.symm
    simp [this]
  | cons x l =>
    rw [hl] at e
    have : ¬ s.size = 0 := by simp at e; omega
    simp [this]
set_option maxHeartbeats 8000000 in
set_option maxRecDepth 100000 in
theorem impl_PlanValue.calls (k : Nat) (a0 : Int) (a1 : Int) (A2 : Option Addr) (c2 : Nat) (l2 : List (List Int)) (s3 : ByteArray) (r : Int) (w : World) (hr2 : Kd.C (Kd.slice 3 (Kd.int .i64)) w A2 l2.length l2) (hc2 : l2.length ≤ c2) (hL : LdW w) (h : impl_PlanValue.f k a0 a1 l2 s3 = some r) :
    Calls Tryd.prog 10 #[.int .i64 a0, .int .i64 a1, .slice A2 l2.length c2, .string s3] w fun e w' => e = .returned (.int .i64 r) ∧ Below w.heap.size w w' := by
  obtain ⟨t, ht, h⟩ := Option.bind_eq_some_iff.mp h
  have HR := Aside0.mk hr2
  have HC := Aside0.mk hc2
  have HT := Aside0.mk ht
  have HLD := Aside0.mk hL
  clear hr2 hc2 ht hL
  go_enter Tryd.func10, Tryd.ntmps10
  go_wp2_with fail
  refine (impl_isPlate.calls a0 a1 A2 c2 l2 t w HR.out HC.out HT.out).mono ?_
  rintro e w2 ⟨rfl, hb⟩
  have HB := Aside0.mk hb
  clear hb
  cases t with
  | false =>
    simp only [Bool.false_eq_true, if_false, Option.some.injEq] at h
    subst h
    go_wp2
    go_ret
    exact ⟨rfl, HB.out⟩
  | true =>
    simp only [if_true] at h
    by_cases c0 : s3.size ≤ 2000
    · rw [if_pos c0] at h
      obtain ⟨⟨v, o, s⟩, hv, h⟩ := Option.bind_eq_some_iff.mp h
      have e0 : decide (2000 < (s3.size : Int)) = false := decide_eq_false (by omega)
      have e1 : decide (2000 < s3.size) = false := decide_eq_false (by omega)
      have HV := Aside0.mk hv
      have H := Aside0.mk h
      have C0 := Aside0.mk c0
      clear hv h c0
      go_upto_region 4 with (fail)
      have hnew := pv_new w2 (.cells #[.slice A2 l2.length c2, .string s3] 52)
      have hI := PvI.mk (w0 := w) hnew (below_alloc HB.out _) HB.out.size C0.out
      obtain ⟨bs, hbs⟩ : ∃ b_, w2.heap.size = b_ := ⟨_, rfl⟩
      rw [hbs] at hI ⊢
      clear hbs hnew
      generalize w2.alloc (.cells #[.slice A2 l2.length c2, .string s3] 52) = w3 at hI ⊢
      have HI := Aside0.mk hI
      clear hI
      go_wp2_with fail
      refine ((pv_both k).1 w bs A2 c2 l2 HR.out HC.out HLD.out w3 s3 a0 a1 (v, o, s) HI.out HV.out).mono ?_
      rintro e w4 ⟨rfl, g1, g2⟩
      have HI4 := Aside0.mk g1
      clear g1 g2
      obtain ⟨_, hx4, _⟩ := HI4.out.cells
      cases o with
      | false =>
        have h := H.out
        simp only [Bool.false_eq_true, false_and, if_false] at h
        obtain rfl := Option.some.inj h
        clear h H
        go_wp2
        go_ret
        exact ⟨rfl, HI4.out.b⟩
      | true =>
        by_cases c1 : s.size = 0
        · have h := H.out
          simp only [c1, true_and, if_true] at h
          obtain rfl := Option.some.inj h
          have e3 : s.toList.isEmpty = true := by rw [pv_empty]; exact decide_eq_true c1
          clear h H c1
          go_wp2
          go_ret
          exact ⟨rfl, HI4.out.b⟩
        · have h := H.out
          simp only [c1, and_false, if_false] at h
          obtain rfl := Option.some.inj h
          have e3 : s.toList.isEmpty = false := by rw [pv_empty]; exact decide_eq_false c1
          clear h H c1
          go_wp2
          go_ret
          exact ⟨rfl, HI4.out.b⟩
    · rw [if_neg c0] at h
      obtain rfl := Option.some.inj h
      have e0 : decide (2000 < (s3.size : Int)) = true := decide_eq_true (by omega)
      have e1 : decide (2000 < s3.size) = true := decide_eq_true (by omega)
      clear c0 h
      go_wp2
      go_ret
      exact ⟨rfl, HB.out⟩

end Go.Proofs.YthjiccclpalobaaDoor.XFnEdgecuts
