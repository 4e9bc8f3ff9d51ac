/- What functions of the program compute, as plain Lean functions, and that Go's calls come to just that: written by wip/tools/xprint.py for the law FnColors. -/
import Derived.Test.YtihnhpohbpfkmaaXFnColorsx0
import Derived.Test.YtihnhpohbpfkmaaXFnColorsx5
import Derived.Test.YtihnhpohbpfkmaaXFnColorsx6
import Derived.Test.YtihnhpohbpfkmaaXFnColorsx7
namespace Go.Proofs.Ytihnhpohbpfkmaa.XFnColors
open Go.RowKit Go.Proofs.YtihnhpohbpfkmaaW.PrintWords Go.Proofs.YtihnhpohbpfkmaaW.PrintLast Go.Proofs.YtihnhpohbpfkmaaW.PrintMore
attribute [local go_sem] max2_int min2_int max_two min_two max_three min_three max_four min_four   -- for this text's walks alone
set_option linter.unusedVariables false
set_option linter.unusedSimpArgs false

/-! ### impl_IsTriangulation: function 45 -/
/-! a map that a call makes, its entries counted up in place ('m[k]++': the entry first, then its store) -/
section
open Go.ChangeShapes Go.WideShapes Go.MapKept Go.ChangeMaps Go.WideElems Go.Maps
theorem it_set_set (w : World) (b : Nat) (o o' : Obj) : setBlock (setBlock w b o) b o' = setBlock w b o' := by
 simp [setBlock]
theorem it_entry {P : Program} {t k e : TypeId} {w : World} {b n : Nat} {D : DataW Unit} (KL : WideMaps.KeyLaw P k) (ht : P.underlying t = some (.map k e)) (he : P.underlying e = some (.int .i64)) (hz : ∀ u : World, (zeroValue e).run P u = .ok (.int .i64 0) u)
  (h : w.ownsMap P k (plainElem P e) b n D) (hn : n < maxLen) {key : Value} {kl : Lit} (hkey : keyOf P k key = some kl) :
  ∃ (v0 : Value) (st : Int) (w1 : World), (Instr.mapEntry t (.map (some b)) key).run P w = .ok (.tuple #[v0, .int .i64 st]) w1 ∧ w.grownBy w1 (some b) ∧
   (∃ D1, w1.ownsMap P k (plainElem P e) b (n + 1) D1 ∧ D1.atKey kl (.lit (.int .i64 0)) = D.atKey kl (.lit (.int .i64 0))) ∧
   ∀ x : Int, (Lit.int .i64 x).wf = true → ∃ w2, (Instr.entryStore t (.map (some b)) (.int .i64 st) (.int .i64 x)).run P w1 = .ok () w2 ∧ w2.ownsMap P k (plainElem P e) b (n + 1) (D.put kl (.lit (.int .i64 x))) ∧ w.grownBy w2 (some b) := by
 have K := Keyed.of_law KL
 have h0 := h
 obtain ⟨es, clock, hb, F, hs, rfl⟩ := h
 have hw0 : (Lit.int .i64 0).wf = true := by decide
 have grow : ∀ o, w.grownBy (setBlock w b o) (some b) := fun o => ⟨rfl, rfl, rfl, by simp [setBlock], fun i _ hi => heap_setBlock_other hb _ (fun e => hi (by rw [e]))⟩
 obtain ⟨v0, st, es1, clock1, hrun, _, hst⟩ := entry_then_store KL ht hz hb F hkey
 refine ⟨v0, st, setBlock w b (.map es1 clock1), hrun, grow _, ?_, fun x hx => ?_⟩
 ·rcases KL.find w hkey es.toList F.keys with ⟨h1, h2⟩ | ⟨j, e0, h1, h2, h3⟩
  ·have hrun' : (Instr.mapEntry t (.map (some b)) key).run P w = .ok (.tuple #[.int .i64 0, goInt clock]) (setBlock w b (.map (es.push ⟨key, .int .i64 0, clock⟩) (clock + 1))) := by
    simp [Instr.mapEntry, run_underlying ht, MapKept.run_getObj_map hb, KL.check w false hkey, h1, hz, MapKept.run_setObj_map _ hb, Result.andThen, setBlock]
   have hup : (Instr.mapUpdate t (.map (some b)) key (.int .i64 0)).run P w = .ok () (setBlock w b (.map (es.push ⟨key, .int .i64 0, clock⟩) (clock + 1))) := by
    simp [Instr.mapUpdate, run_underlying ht, MapKept.run_getObj_map hb, KL.check w false hkey, h1, MapKept.run_setObj_map _ hb, Result.andThen, setBlock]
   obtain ⟨w', hr', hown', _⟩ := h0.update K ht hn hkey (plainElem_int he hw0); have e1 : setBlock w b (.map es1 clock1) = w' := by
    have e2 := hrun.symm.trans hrun'; have e3 := hup.symm.trans hr'; injection e2 with _ e2
    injection e3 with _ e3
    rw [e2, e3]
   rw [e1]; refine ⟨_, hown', ?_⟩; rw [atKey_put_same ⟨_, rfl⟩ (K.key hkey)]; rcases Maps.fit_look false K ht (hz w) hb F hkey with ⟨_, _, hat⟩ | ⟨e0, y, hm, hk, _, _, _, _⟩
   ·exact (hat _).symm
   ·exact absurd hk (h2 e0 (by first | exact hm | exact Array.mem_toList_iff.mpr hm | simpa using hm))
  ·have hj : es[j]? = some e0 := by simpa using h2
   have hsame : es.modify j (fun e => { e with key := key }) = es := by
    apply Array.ext'
    rw [Array.toList_modify, modify_eq_set _ _ _ _ h2]; have : ({ e0 with key := key } : MapEntry) = e0 := by rw [← h3]
    rw [this]; exact set_self _ _ _ h2
   have hrun' : (Instr.mapEntry t (.map (some b)) key).run P w = .ok (.tuple #[e0.val, goInt e0.born]) (setBlock w b (.map es clock)) := by
    simp [Instr.mapEntry, run_underlying ht, MapKept.run_getObj_map hb, KL.check w false hkey, h1, hj, h3, KL.stays w hkey, hsame, MapKept.run_setObj_map _ hb, Result.andThen, setBlock]
   have e1 : setBlock w b (.map es1 clock1) = setBlock w b (.map es clock) := by
    have e2 := hrun.symm.trans hrun'; injection e2 with _ e2
   rw [e1]; exact ⟨_, ⟨es, clock, heap_setBlock_same hb _, F, Nat.le_succ_of_le hs, rfl⟩, rfl⟩
 ·obtain ⟨es', clock', hr2, hup⟩ := hst (setBlock w b (.map es1 clock1)) (.int .i64 x) (heap_setBlock_same hb _)
  obtain ⟨w', hr', hown', hg'⟩ := h0.update K ht hn hkey (plainElem_int he hx); rw [it_set_set] at hr2; have e1 : setBlock w b (.map es' clock') = w' := by
   have e3 := hup.symm.trans hr'; injection e3
  rw [e1] at hr2; exact ⟨w', hr2, hown', hg'⟩
end
/-! IsTriangulation: each pair of corners is counted in a map; sides once, others twice -/
theorem it_laidOut : laidOutB Try.prog = true := by kernel_rfl
theorem it_law : WideMaps.KeyLaw Try.prog 88 := deep_law_gate it_laidOut (of_decide_eq_true (by kernel_rfl)) (of_decide_eq_true (by kernel_rfl)) (by kernel_rfl) (by kernel_rfl)
theorem it_keyed : Maps.Keyed Try.prog 88 := Maps.Keyed.of_law it_law
theorem it_arr : WideMaps.ArrKey Try.prog 88 3 2 := ⟨Try.underlying88, by kernel_rfl, by kernel_rfl, by kernel_rfl⟩
theorem it_zero (w : World) : (zeroValue 3).run Try.prog w = .ok (.int .i64 0) w := by kernel_rfl
def ItR (x : Int) : Prop := 0 ≤ x ∧ x < 100
theorem it_wf {x : Int} (h : ItR x) : (Lit.int .i64 x).wf = true := WalkArith.wf_i64 (by unfold ItR at h; omega)
def itLit (a b : Int) : Lit := .string (keyBytes [.int .i64 a, .int .i64 b])
theorem it_key {a b : Int} (ha : ItR a) (hb : ItR b) : keyOf Try.prog 88 (.agg #[.int .i64 a, .int .i64 b]) = some (itLit a b) := WideMaps.keyOf_pair it_arr Try.underlying3 ⟨Try.prog.types.size - 1, by kernel_rfl⟩ (it_wf ha) (it_wf hb)
theorem it_inj {a b c d : Int} (ha : ItR a) (hb : ItR b) (hc : ItR c) (hd : ItR d) (h : itLit a b = itLit c d) : a = c ∧ b = d := by
 have := it_law.inj (it_key ha hb) (h ▸ it_key hc hd)
 simpa using this
theorem it_isKey {a b : Int} (ha : ItR a) (hb : ItR b) : WideAt.IsKeyLit (itLit a b) := it_keyed.key (it_key ha hb)
/-- What the map says: f a b is how often the pair was counted, none where it is not there. -/
structure ItM (D : DataW Unit) (f : Int → Int → Option Int) : Prop where
 keys : ∀ kl, Maps.has D kl = true → ∃ a b, ItR a ∧ ItR b ∧ kl = itLit a b
 has : ∀ a b, ItR a → ItR b → Maps.has D (itLit a b) = (f a b).isSome
 look : ∀ a b, ItR a → ItR b → D.atKey (itLit a b) (.lit (.int .i64 0)) = .lit (.int .i64 ((f a b).getD 0))
def itUpd (f : Int → Int → Option Int) (a b : Int) (o : Option Int) : Int → Int → Option Int := fun x y => if x = a ∧ y = b then o else f x y
theorem ItM.empty : ItM (.map []) (fun _ _ => none) := ⟨(fun kl h => by cases h), fun _ _ _ _ => rfl, fun _ _ _ _ => rfl⟩
theorem ItM.put {D : DataW Unit} {f : Int → Int → Option Int} (h : ItM D f) (hD : Maps.IsMap D) {a b : Int} (ha : ItR a) (hb : ItR b) (v : Int) : ItM (D.put (itLit a b) (.lit (.int .i64 v))) (itUpd f a b (some v)) := by
 refine ⟨fun kl hk => ?_, fun x y hx hy => ?_, fun x y hx hy => ?_⟩
 ·by_cases e : kl = itLit a b
  ·exact ⟨a, b, ha, hb, e⟩
  ·rw [Maps.has_put_other e] at hk
   exact h.keys kl hk
 ·unfold itUpd
  by_cases e : x = a ∧ y = b
  ·rw [if_pos e, e.1, e.2, Maps.has_put_same hD (it_isKey ha hb)]; rfl
  ·rw [if_neg e, Maps.has_put_other (fun h2 => e (it_inj hx hy ha hb h2)), h.has x y hx hy]
 ·unfold itUpd
  by_cases e : x = a ∧ y = b
  ·rw [if_pos e, e.1, e.2, Maps.atKey_put_same hD (it_isKey ha hb)]; rfl
  ·rw [if_neg e, Maps.atKey_put_other (fun h2 => e (it_inj hx hy ha hb h2)), h.look x y hx hy]
theorem ItM.del {D : DataW Unit} {f : Int → Int → Option Int} (h : ItM D f) {a b : Int} (ha : ItR a) (hb : ItR b) : ItM (D.del (itLit a b)) (itUpd f a b none) := by
 refine ⟨fun kl hk => ?_, fun x y hx hy => ?_, fun x y hx hy => ?_⟩
 ·by_cases e : kl = itLit a b
  ·rw [e, Maps.has_del_same] at hk; cases hk
  ·rw [Maps.has_del_other e] at hk
   exact h.keys kl hk
 ·unfold itUpd
  by_cases e : x = a ∧ y = b
  ·rw [if_pos e, e.1, e.2, Maps.has_del_same]; rfl
  ·rw [if_neg e, Maps.has_del_other (fun h2 => e (it_inj hx hy ha hb h2)), h.has x y hx hy]
 ·unfold itUpd
  by_cases e : x = a ∧ y = b
  ·rw [if_pos e, e.1, e.2, Maps.atKey_del_same]; rfl
  ·rw [if_neg e, Maps.atKey_del_other (fun h2 => e (it_inj hx hy ha hb h2)), h.look x y hx hy]
abbrev itOwns (W : World) (g n : Nat) (D : DataW Unit) : Prop := W.ownsMap Try.prog 88 (plainElem Try.prog 3) g n D
structure ItW (w W : World) (g n : Nat) (f : Int → Int → Option Int) : Prop where
 below : Below w.heap.size w W
 base : w.heap.size ≤ g
 map : ∃ D, itOwns W g n D ∧ ItM D f
/-- While a pair is counted up: the rows that came in, and what a look-up of the pair gives. -/
structure ItS (w W : World) (g : Nat) (a b c : Int) : Prop where
 below : Below w.heap.size w W
 look : (Instr.lookup 87 (.map (some g)) (.agg #[.int .i64 a, .int .i64 b]) false).run Try.prog W = .ok (.int .i64 c) W
theorem it_below {w W W1 : World} {g : Nat} (h : Below w.heap.size w W) (hb : w.heap.size ≤ g) (hg : W.grownBy W1 (some g)) : Below w.heap.size w W1 := h.grown hg h.size (fun k hk => by cases hk; exact hb)
set_option maxRecDepth 100000 in
theorem it_look {W : World} {g n : Nat} {D : DataW Unit} (h : itOwns W g n D) {a b c : Int} (ha : ItR a) (hb : ItR b) (hc : D.atKey (itLit a b) (.lit (.int .i64 0)) = .lit (.int .i64 c)) : (Instr.lookup 87 (.map (some g)) (.agg #[.int .i64 a, .int .i64 b]) false).run Try.prog W = .ok (.int .i64 c) W := by
 obtain ⟨c', hrun, hat, _⟩ := h.lookup_int it_keyed Try.underlying87 Try.underlying3 (it_zero _) (it_key ha hb)
 have e := hat.symm.trans hc
 injection e with e
 injection e with _ e
 rw [e] at hrun
 exact hrun
section
variable {w W W' : World} {g n : Nat} {f : Int → Int → Option Int}
theorem ItW.look (h : ItW w W g n f) {a b : Int} (ha : ItR a) (hb : ItR b) : (Instr.lookup 87 (.map (some g)) (.agg #[.int .i64 a, .int .i64 b]) false).run Try.prog W = .ok (.int .i64 ((f a b).getD 0)) W := by
 obtain ⟨D, h1, h2⟩ := h.map
 exact it_look h1 ha hb (h2.look a b ha hb)
theorem ItW.toS (h : ItW w W g n f) {a b : Int} (ha : ItR a) (hb : ItR b) : ItS w W g a b ((f a b).getD 0) := ⟨h.below, h.look ha hb⟩
theorem it_owns_block {D : DataW Unit} (h : itOwns W g n D) (hb : W'.heap[g]? = W.heap[g]?) : itOwns W' g n D := by
 obtain ⟨es, clock, e, r⟩ := h
 exact ⟨es, clock, hb.trans e, r⟩
theorem ItW.step (h : ItW w W g n f) (hb : Below W.heap.size W W') : ItW w W' g n f := by
 obtain ⟨D, h1, h2⟩ := h.map
 exact ⟨below_step h.below hb, h.base, D, it_owns_block h1 (hb.block _ h1.lt), h2⟩
theorem ItW.lt (h : ItW w W g n f) : g < W.heap.size := by
 obtain ⟨D, h1, _⟩ := h.map
 exact h1.lt
theorem ItW.drew (h : ItW w W g n f) : ItW w W.drew g n f := h.step (pw_below_drewN (Below.refl _ _) 1 : Below W.heap.size W W.drew)
/-- A pair is counted up: the entry, then its store. -/
theorem ItW.entry (h : ItW w W g n f) (hn : n < 1000) {a b : Int} (ha : ItR a) (hb : ItR b) :
  ∃ (v0 : Value) (st : Int) (w1 : World), (Instr.mapEntry 87 (.map (some g)) (.agg #[.int .i64 a, .int .i64 b])).run Try.prog W = .ok (.tuple #[v0, .int .i64 st]) w1 ∧ ItS w w1 g a b ((f a b).getD 0) ∧
   ∀ x : Int, (Lit.int .i64 x).wf = true → ∃ w2, (Instr.entryStore 87 (.map (some g)) (.int .i64 st) (.int .i64 x)).run Try.prog w1 = .ok () w2 ∧ ItW w w2 g (n + 1) (itUpd f a b (some x)) := by
 obtain ⟨D, h1, h2⟩ := h.map
 obtain ⟨v0, st, w1, hrun, hg1, ⟨D1, ho1, ha1⟩, hst⟩ := it_entry it_law Try.underlying87 Try.underlying3 it_zero h1 (by unfold maxLen; omega) (it_key ha hb)
 refine ⟨v0, st, w1, hrun, ⟨it_below h.below h.base hg1, it_look ho1 ha hb (ha1.trans (h2.look a b ha hb))⟩, fun x hx => ?_⟩
 obtain ⟨w2, hr2, ho2, hg2⟩ := hst x hx
 exact ⟨w2, hr2, it_below h.below h.base hg2, h.base, _, ho2, h2.put h1.isMap ha hb x⟩
theorem ItW.mono (h : ItW w W g n f) {n' : Nat} (hn : n ≤ n') : ItW w W g n' f := by
 obtain ⟨D, h1, h2⟩ := h.map
 exact ⟨h.below, h.base, D, h1.mono hn, h2⟩
end
/-! ### What it computes -/
def itRow (l0 : List S25) (t : List Int) : Option (Option Int) :=
 if (t.length : Int) = 3 then if rd t 0 < 0 then some none else if rd t 0 ≥ rd t 1 then some none else if rd t 1 ≥ rd t 2 then some none else if rd t 2 ≥ (l0.length : Int) then some none
  else (impl_cross.f (rd_T25 l0 (rd t 0)).f0 (rd_T25 l0 (rd t 0)).f1 (rd_T25 l0 (rd t 1)).f0 (rd_T25 l0 (rd t 1)).f1 (rd_T25 l0 (rd t 2)).f0 (rd_T25 l0 (rd t 2)).f1).bind fun c =>
   if c = 0 then some none else (impl_size.f c).bind fun s => some (some s)
 else some none
def itKeys (t : List Int) : List (Int × Int) := [(rd t 0, rd t 1), (rd t 1, rd t 2), (rd t 0, rd t 2)]
def itRows (l0 : List S25) : List (List Int) → Int → List (Int × Int) → Option (Option (Int × List (Int × Int)))
 | [], area, ks => some (some (area, ks))
 | t :: ts, area, ks => (itRow l0 t).bind fun o => match o with
  | none => some none
  | some s => itRows l0 ts (wrap64 (area + s)) (ks ++ itKeys t)
def itCnt (ks : List (Int × Int)) (a b : Int) : Int := ((ks.filter fun q => q.1 == a && q.2 == b).length : Int)
def itF (ks : List (Int × Int)) : Int → Int → Option Int := fun a b => if itCnt ks a b = 0 then none else some (itCnt ks a b)
def itLo (n i : Nat) : Int := mn (i : Int) (((i + 1) % n : Nat) : Int)
def itHi (n i : Nat) : Int := mx (i : Int) (((i + 1) % n : Nat) : Int)
/-- The counts without the first i sides. -/
def itG (ks : List (Int × Int)) (n i : Nat) : Int → Int → Option Int := fun a b => if (List.range i).any (fun j => itLo n j == a && itHi n j == b) then none else itF ks a b
def itSides (ks : List (Int × Int)) (n : Nat) : Nat → Nat → Bool
 | 0, _ => true
 | m + 1, i => (itCnt ks (itLo n i) (itHi n i) == 1) && itSides ks n m (i + 1)
def itRest (ks : List (Int × Int)) (n : Nat) : Bool := ks.all fun q => match itG ks n n q.1 q.2 with
 | none => true
 | some c => c == 2
def impl_IsTriangulation.f (k : Nat) (l0 : List S25) (l1 : List (List Int)) : Option Bool :=
 (impl_PolygonOk.f k l0).bind fun b => if b = true then
  if (l1.length : Int) = wrap64 ((l0.length : Int) - 2) then
   (itRows l0 l1 0 []).bind fun o => match o with
    | none => some false
    | some x => if itSides x.2 l0.length l0.length 0 = true then if itRest x.2 l0.length = true then (impl_twice.f k l0).bind fun t => (impl_size.f t).bind fun s => some (decide (x.1 = s)) else some false else some false
  else some false
 else some false
theorem impl_IsTriangulation.mono : ∀ a0 a1 k, LeO (impl_IsTriangulation.f k a0 a1) (impl_IsTriangulation.f (k + 1) a0 a1) := by
 intro a0 a1 k
 unfold impl_IsTriangulation.f
 refine LeO.bind (impl_PolygonOk.mono _ k) (fun b => LeO.ite (LeO.ite (LeO.bind (LeO.refl _) (fun o => ?_)) (LeO.refl _)) (LeO.refl _))
 cases o with
 | none => exact LeO.refl _
 | some x => exact LeO.ite (LeO.ite (LeO.bind (impl_twice.mono _ k) (fun _ => LeO.refl _)) (LeO.refl _)) (LeO.refl _)
theorem it_poly_len {k : Nat} {l : List S25} (h : impl_PolygonOk.f k l = some true) : 3 ≤ l.length ∧ l.length ≤ 10 := by
 unfold impl_PolygonOk.f at h
 by_cases c1 : l.length < 3
 ·rw [if_pos c1] at h; simp at h
 ·rw [if_neg c1] at h
  by_cases c2 : l.length > 10
  ·rw [if_pos c2] at h; simp at h
  ·omega
/-! ### The counts -/
theorem itCnt_snoc (ks : List (Int × Int)) (a b x y : Int) : itCnt (ks ++ [(a, b)]) x y = itCnt ks x y + if x = a ∧ y = b then 1 else 0 := by
 unfold itCnt
 rw [List.filter_append, List.length_append]
 by_cases e : x = a ∧ y = b
 ·rw [if_pos e, List.filter_cons_of_pos (by simp [e.1, e.2])]; simp
 ·rw [if_neg e, List.filter_cons_of_neg (by simp only [Bool.and_eq_true, beq_iff_eq]; exact fun h => e ⟨h.1.symm, h.2.symm⟩)]; simp
theorem itCnt_nn (ks : List (Int × Int)) (a b : Int) : 0 ≤ itCnt ks a b ∧ itCnt ks a b ≤ ks.length := by
 unfold itCnt
 have := List.length_filter_le (fun q : Int × Int => q.1 == a && q.2 == b) ks
 omega
theorem itF_get (ks : List (Int × Int)) (a b : Int) : (itF ks a b).getD 0 = itCnt ks a b := by
 unfold itF
 by_cases c : itCnt ks a b = 0
 ·rw [if_pos c, c]; rfl
 ·rw [if_neg c]; rfl
theorem itF_snoc (ks : List (Int × Int)) (a b : Int) : itUpd (itF ks) a b (some (itCnt ks a b + 1)) = itF (ks ++ [(a, b)]) := by
 funext x y
 unfold itUpd itF
 rw [itCnt_snoc]
 have := itCnt_nn ks x y
 by_cases e : x = a ∧ y = b
 ·rw [if_pos e, if_pos e, if_neg (by omega), e.1, e.2]
 ·rw [if_neg e, if_neg e, Int.add_zero]
theorem itF_nil : itF [] = fun _ _ => none := rfl
theorem itG_zero (ks : List (Int × Int)) (n : Nat) : itG ks n 0 = itF ks := by
 funext a b
 unfold itG
 simp
theorem itG_del (ks : List (Int × Int)) (n i : Nat) : itUpd (itG ks n i) (itLo n i) (itHi n i) none = itG ks n (i + 1) := by
 funext a b
 unfold itUpd itG
 rw [List.range_succ, List.any_append]
 by_cases e : a = itLo n i ∧ b = itHi n i
 ·rw [if_pos e, if_pos (by simp [e.1, e.2])]
 ·rw [if_neg e]
  have : (([i] : List Nat).any fun j => itLo n j == a && itHi n j == b) = false := by
   simp only [List.any_cons, List.any_nil, Bool.or_false, Bool.and_eq_false_iff, beq_eq_false_iff_ne]; by_cases c : itLo n i = a
   ·exact Or.inr fun h => e ⟨c.symm, h.symm⟩
   ·exact Or.inl c
  rw [this, Bool.or_false]
theorem it_pair_ne {n i j : Nat} (h3 : 3 ≤ n) (hj : j < i) (hi : i < n) : ¬ (itLo n j = itLo n i ∧ itHi n j = itHi n i) := by
 unfold itLo itHi mn mx
 have e1 : (j + 1) % n = j + 1 := Nat.mod_eq_of_lt (by omega)
 rw [e1]
 by_cases c : i + 1 = n
 ·rw [c, Nat.mod_self]
  split <;> split <;> split <;> split <;> omega
 ·rw [Nat.mod_eq_of_lt (show i + 1 < n by omega)]
  split <;> split <;> split <;> split <;> omega
/-- The next side's count is still there. -/
theorem itG_side (ks : List (Int × Int)) {n i : Nat} (h3 : 3 ≤ n) (hi : i < n) : (itG ks n i (itLo n i) (itHi n i)).getD 0 = itCnt ks (itLo n i) (itHi n i) := by
 unfold itG
 have : ((List.range i).any fun j => itLo n j == itLo n i && itHi n j == itHi n i) = false := by
  rw [List.any_eq_false]; intro j hj
  simp only [Bool.and_eq_true, beq_iff_eq]; exact it_pair_ne h3 (List.mem_range.mp hj) hi
 rw [this]
 exact itF_get ks _ _
theorem it_rangeOk {n i : Nat} (hn : 3 ≤ n ∧ n ≤ 10) (hi : i < n) : ItR (itLo n i) ∧ ItR (itHi n i) := by
 have : (i + 1) % n < n := Nat.mod_lt _ (by omega)
 unfold ItR itLo itHi mn mx
 split <;> split <;> omega
theorem it_turn {w W W1 : World} {g n : Nat} {f : Int → Int → Option Int} {D : DataW Unit} (h : ItW w W g n f) (hm : ItM D f) {a b : Int} (ha : ItR a) (hb : ItR b) (ho : itOwns W1 g n (D.del (itLit a b))) (ht : W.mapTurned W1 g) : ItW w W1 g n (itUpd f a b none) :=
 ⟨it_below h.below h.base ht.grown, h.base, _, ho, hm.del ha hb⟩
theorem itCnt_pos {ks : List (Int × Int)} {q : Int × Int} (h : q ∈ ks) : itCnt ks q.1 q.2 ≠ 0 := by
 unfold itCnt
 have : 0 < (ks.filter fun x => x.1 == q.1 && x.2 == q.2).length := List.length_pos_of_mem (List.mem_filter.mpr ⟨h, by simp⟩)
 omega
/-- Nothing is left: all counts that were there are two. -/
theorem it_rest_true {ks : List (Int × Int)} {n : Nat} (hr : ∀ q ∈ ks, ItR q.1 ∧ ItR q.2) (h : ∀ a b, ItR a → ItR b → ∀ c, itG ks n n a b = some c → c = 2) : itRest ks n = true := by
 unfold itRest
 rw [List.all_eq_true]
 intro q hq
 cases e : itG ks n n q.1 q.2 with
 | none => rfl
 | some c => exact beq_iff_eq.mpr (h _ _ (hr q hq).1 (hr q hq).2 c e)
theorem it_rest_false {ks : List (Int × Int)} {n : Nat} {a b c : Int} (h : itG ks n n a b = some c) (hc : c ≠ 2) : itRest ks n = false := by
 have h0 := h
 unfold itG at h
 by_cases e : ((List.range n).any fun j => itLo n j == a && itHi n j == b) = true
 ·rw [if_pos e] at h; cases h
 ·rw [if_neg e] at h
  unfold itF at h
  by_cases e2 : itCnt ks a b = 0
  ·rw [if_pos e2] at h; cases h
  ·unfold itCnt at e2
   have : 0 < (ks.filter fun x => x.1 == a && x.2 == b).length := by omega
   obtain ⟨q, hq⟩ := List.exists_mem_of_length_pos this; obtain ⟨h1, h2⟩ := List.mem_filter.mp hq; rw [Bool.and_eq_true, beq_iff_eq, beq_iff_eq] at h2; unfold itRest
   rw [List.all_eq_false]; refine ⟨q, h1, ?_⟩; rw [h2.1, h2.2, h0]; simpa using hc
/-- While the map is ranged over: what has come was two. -/
structure ItL (D : DataW Unit) (f : Int → Int → Option Int) (left : Lit → Bool) : Prop where
 m : ItM D f
 two : ∀ a b, ItR a → ItR b → left (itLit a b) = false → ∀ c, f a b = some c → c = 2
theorem ItL.start {D : DataW Unit} {f : Int → Int → Option Int} (h : ItM D f) : ItL D f (Maps.has D) := ⟨h, fun a b ha hb hl c hc => by rw [h.has a b ha hb, hc] at hl; cases hl⟩
theorem ItL.value {D : DataW Unit} {f : Int → Int → Option Int} {left : Lit → Bool} (h : ItL D f left) {kl : Lit} {c : Int} (hat : ∀ zd, D.atKey kl zd = .lit (.int .i64 c)) : ∃ a b, ItR a ∧ ItR b ∧ kl = itLit a b ∧ f a b = some c := by
 obtain ⟨a, b, ha, hb, rfl⟩ := h.m.keys kl (Maps.has_true_of_atKey hat)
 refine ⟨a, b, ha, hb, rfl, ?_⟩
 have h1 := h.m.has a b ha hb
 rw [Maps.has_true_of_atKey hat] at h1
 have h2 := (h.m.look a b ha hb).symm.trans (hat _)
 injection h2 with h2
 injection h2 with _ h2
 cases e : f a b with
 | none => rw [e] at h1; cases h1
 | some x => rw [e] at h2; rw [← h2]; rfl
theorem ItL.next {D : DataW Unit} {f : Int → Int → Option Int} {left : Lit → Bool} (h : ItL D f left) {kl : Lit} (hat : ∀ zd, D.atKey kl zd = .lit (.int .i64 2)) : ItL D f (fun z => left z && !z.sameKey kl) := by
 refine ⟨h.m, fun a b ha hb hl c hc => ?_⟩
 by_cases e : left (itLit a b) = true
 ·rw [e, Bool.true_and] at hl
  have hk : (itLit a b).sameKey kl = true := by simpa using hl
  have := WideAt.sameKey_eq hk; obtain ⟨x, y, hx, hy, e2, hf⟩ := h.value hat; obtain ⟨rfl, rfl⟩ := it_inj ha hb hx hy (this.trans e2); rw [hf] at hc; exact (Option.some.inj hc).symm
 ·exact h.two a b ha hb (by simpa using e) c hc
theorem ItW.set {w W : World} {g n gz j : Nat} {f : Int → Int → Option Int} {v : Value} (h : ItW w W g n f) (hne : g ≠ gz) (hge : w.heap.size ≤ gz) : ItW w (W.setCell ⟨gz, j, none⟩ v) g n f := by
 obtain ⟨D, h1, h2⟩ := h.map
 exact ⟨below_set h.below hge, h.base, D, it_owns_block h1 (Below.heap_setCell W ⟨gz, j, none⟩ v g hne), h2⟩
theorem it_zero2 {W : World} {gz T : Nat} (h : W.heap[gz]? = some (.cells #[.int .i64 0, .int .i64 0] T (0, 0))) : W.cell? ⟨gz, 0, none⟩ = some (.int .i64 0) ∧ W.cell? ⟨gz, 1, none⟩ = some (.int .i64 0) ∧ W.frozen? ⟨gz, 0, none⟩ = false ∧ W.frozen? ⟨gz, 1, none⟩ = false := by
 refine ⟨by simp [World.cell?, h], by simp [World.cell?, h], by simp [World.frozen?, h], by simp [World.frozen?, h]⟩
theorem it_store2 {W : World} {gz T : Nat} {x y : Int} (h : W.heap[gz]? = some (.cells #[.int .i64 0, .int .i64 0] T (0, 0))) : ((W.setCell ⟨gz, 0, none⟩ (.int .i64 x)).setCell ⟨gz, 1, none⟩ (.int .i64 y)).heap[gz]? = some (.cells #[.int .i64 x, .int .i64 y] T (0, 0)) := by
 have s1 : (W.setCell ⟨gz, 0, none⟩ (.int .i64 x)).heap[gz]? = some (.cells #[.int .i64 x, .int .i64 0] T (0, 0)) := by
  show (W.heap.modify gz _)[gz]? = _
  rw [Array.getElem?_modify, if_pos rfl, h]; rfl
 generalize W.setCell ⟨gz, 0, none⟩ (.int .i64 x) = V at s1
 show (V.heap.modify gz _)[gz]? = _
 rw [Array.getElem?_modify, if_pos rfl, s1]
 rfl
theorem it_ranges {ks : List (Int × Int)} {t : List Int} {a b c : Int} (h : ∀ q ∈ ks, ItR q.1 ∧ ItR q.2) (hk : itKeys t = [(a, b), (b, c), (a, c)]) (ha : ItR a) (hb : ItR b) (hc : ItR c) : ∀ q ∈ ks ++ itKeys t, ItR q.1 ∧ ItR q.2 := by
 intro q hq
 rcases List.mem_append.mp hq with hq | hq
 ·exact h q hq
 ·rw [hk] at hq
  simp only [List.mem_cons, List.not_mem_nil, or_false] at hq; rcases hq with rfl | rfl | rfl
  ·exact ⟨ha, hb⟩
  ·exact ⟨hb, hc⟩
  ·exact ⟨ha, hc⟩
def itOkB (n : Int) (t : List Int) : Bool := decide ((t.length : Int) = 3 ∧ ¬ rd t 0 < 0 ∧ ¬ rd t 0 ≥ rd t 1 ∧ ¬ rd t 1 ≥ rd t 2 ∧ ¬ rd t 2 ≥ n)
def impl_IsTriangulation.qB (n m : Nat) : Array Bool := ((List.range n).map fun j => m.testBit j).toArray
def impl_IsTriangulation.T8 : Bool × List (List Nat × List Nat) := (true, [([], []), ([0], [0]), ([1], [1]), ([2], [2]), ([3], [3]), ([4, 3], [3, 4]), ([5, 3], [3, 5]), ([6, 3], [3, 6]), ([3, 7], [3, 7]), ([8, 3], [8]), ([9], [9]), ([10, 9], [9, 10]), ([11, 9], [9, 11]), ([9], [9]), ([13, 9], [9, 13]), ([14, 9], [9, 14]), ([12, 15, 9], [9, 12, 15]), ([9, 16], [9, 16]), ([17, 9], [17]), ([18], [18]), ([19, 18], [18, 19]), ([20, 18], [18, 20]), ([18], [18]), ([22, 18], [18, 22]), ([23, 18], [18, 23]), ([21, 24, 18], [18, 21, 24]), ([18, 25], [18, 25]), ([26, 18], [26]), ([27], [27]), ([28, 27], [27, 28]), ([29, 27], [27, 29]), ([27], [27]), ([30, 31, 27], [27, 30, 31]), ([27, 32], [27, 32])])
def impl_IsTriangulation.B8 : List Nat := [0, 1, 3, 7, 15, 31, 63, 127, 255, 511, 1023, 2047, 4095, 1023, 9215, 25599, 65535, 131071, 262143, 524287, 1048575, 2097151, 524287, 4718591, 13107199, 33554431, 67108863, 134217727, 268435455, 536870911, 1073741823, 268435455, 4294967295, 8589934591]
theorem impl_IsTriangulation.tab8 : rtab .any (opsOf Try.f45 8) = impl_IsTriangulation.T8 := by kernel_rfl
theorem impl_IsTriangulation.bits8 : waitsOk impl_IsTriangulation.T8.2 impl_IsTriangulation.B8 = true := by kernel_rfl
def impl_IsTriangulation.T10 : Bool × List (List Nat × List Nat) := (true, [([], []), ([], []), ([1], [1]), ([2], [2]), ([0, 3], [0, 3]), ([4], [4]), ([], []), ([], []), ([7], [7]), ([8], [8]), ([6, 9], [6, 9]), ([10], [10]), ([], []), ([], []), ([13], [13]), ([14], [14]), ([12, 15], [12, 15]), ([16], [16]), ([5, 11, 17], [5, 11, 17]), ([18, 18, 0, 1, 2, 3, 4, 5, 6, 7, 8, 9, 10, 11, 12, 13, 14, 15, 16, 17, 18], [18])])
def impl_IsTriangulation.B10 : List Nat := [0, 0, 2, 6, 15, 31, 0, 0, 128, 384, 960, 1984, 0, 0, 8192, 24576, 61440, 126976, 262143, 524287]
theorem impl_IsTriangulation.tab10 : rtab .any (opsOf Try.f45 10) = impl_IsTriangulation.T10 := by kernel_rfl
theorem impl_IsTriangulation.bits10 : waitsOk impl_IsTriangulation.T10.2 impl_IsTriangulation.B10 = true := by kernel_rfl
def impl_IsTriangulation.T14 : Bool × List (List Nat × List Nat) := (true, [([], []), ([], []), ([1], [1]), ([2], [2]), ([], []), ([4], [4]), ([5], [5]), ([3, 6], [3, 6]), ([0, 7], [0, 7]), ([8], [8]), ([0, 7, 0, 1, 2, 3, 4, 5, 6, 7], [0, 7]), ([10], [10]), ([0, 11, 9, 10, 0, 1, 2, 3, 4, 5, 6, 7, 8, 9, 10, 11], [0, 9, 11])])
def impl_IsTriangulation.B14 : List Nat := [0, 0, 2, 6, 0, 16, 48, 126, 255, 511, 255, 1279, 4095]
theorem impl_IsTriangulation.tab14 : rtab .any (opsOf Try.f45 14) = impl_IsTriangulation.T14 := by kernel_rfl
theorem impl_IsTriangulation.bits14 : waitsOk impl_IsTriangulation.T14.2 impl_IsTriangulation.B14 = true := by kernel_rfl
def impl_IsTriangulation.T15 : Bool × List (List Nat × List Nat) := (true, [([], []), ([], []), ([1], [1]), ([2], [2]), ([], []), ([4], [4]), ([5], [5]), ([3, 6], [3, 6]), ([0, 7], [0, 7]), ([8], [8]), ([0, 7, 0, 1, 2, 3, 4, 5, 6, 7], [0, 7]), ([10], [10]), ([0, 11, 9, 10, 0, 1, 2, 3, 4, 5, 6, 7, 8, 9, 10, 11], [0, 9, 11])])
def impl_IsTriangulation.B15 : List Nat := [0, 0, 2, 6, 0, 16, 48, 126, 255, 511, 255, 1279, 4095]
theorem impl_IsTriangulation.tab15 : rtab .any (opsOf Try.f45 15) = impl_IsTriangulation.T15 := by kernel_rfl
theorem impl_IsTriangulation.bits15 : waitsOk impl_IsTriangulation.T15.2 impl_IsTriangulation.B15 = true := by kernel_rfl
def impl_IsTriangulation.T16 : Bool × List (List Nat × List Nat) := (true, [([], []), ([], []), ([1], [1]), ([2], [2]), ([], []), ([4], [4]), ([5], [5]), ([3, 6], [3, 6]), ([0, 7], [0, 7]), ([8], [8]), ([0, 7, 0, 1, 2, 3, 4, 5, 6, 7], [0, 7]), ([10], [10]), ([0, 11, 9, 10, 0, 1, 2, 3, 4, 5, 6, 7, 8, 9, 10, 11], [0, 9, 11])])
def impl_IsTriangulation.B16 : List Nat := [0, 0, 2, 6, 0, 16, 48, 126, 255, 511, 255, 1279, 4095]
theorem impl_IsTriangulation.tab16 : rtab .any (opsOf Try.f45 16) = impl_IsTriangulation.T16 := by kernel_rfl
theorem impl_IsTriangulation.bits16 : waitsOk impl_IsTriangulation.T16.2 impl_IsTriangulation.B16 = true := by kernel_rfl
def impl_IsTriangulation.T21 : Bool × List (List Nat × List Nat) := (true, [([], []), ([], []), ([1], [1]), ([], []), ([2, 3], [2, 3]), ([0, 4], [0, 4]), ([], []), ([], []), ([7], [7]), ([], []), ([8, 9], [8, 9]), ([6, 10], [6, 10]), ([5, 11], [5, 11]), ([], []), ([13, 12, 0, 1, 2, 3, 4, 5, 6, 7, 8, 9, 10, 11, 12, 13], [12, 13])])
def impl_IsTriangulation.B21 : List Nat := [0, 0, 2, 0, 14, 31, 0, 0, 128, 0, 896, 1984, 4095, 0, 16383]
theorem impl_IsTriangulation.tab21 : rtab .any (opsOf Try.f45 21) = impl_IsTriangulation.T21 := by kernel_rfl
theorem impl_IsTriangulation.bits21 : waitsOk impl_IsTriangulation.T21.2 impl_IsTriangulation.B21 = true := by kernel_rfl
theorem it_cell {w W : World} {ad : Addr} {v : Value} (hb : Below w.heap.size w W) (h : w.cell? ad = some v) : W.cell? ad = some v := (hb.cell (World.block_lt_of_cell? w _ h)).trans h
set_option maxHeartbeats 8000000 in
set_option maxRecDepth 100000 in
theorem impl_IsTriangulation.calls (k : Nat) (A0 : Option Addr) (c0 : Nat) (l0 : List S25) (A1 : Option Addr) (c1 : Nat) (l1 : List (List Int)) (r : Bool) (w : World) (hr0 : Kd.C k25 w A0 l0.length l0) (hc0 : l0.length ≤ c0) (hr1 : Kd.C (Kd.slice 3 (Kd.int .i64)) w A1 l1.length l1) (hc1 : l1.length ≤ c1) (h : impl_IsTriangulation.f k l0 l1 = some r) :
  Calls Try.prog 45 #[.slice A0 l0.length c0, .slice A1 l1.length c1] w fun e w' => e = .returned (.bool r) ∧ Below w.heap.size w w' := by
 have hu := Try.underlying25
 have hmm := @run_makeMap Try.prog
 have HR0 := Aside0.mk hr0
 have HC0 := Aside0.mk hc0
 have HR1 := Aside0.mk hr1
 have HC1 := Aside0.mk hc1
 unfold impl_IsTriangulation.f at h
 obtain ⟨bp, hbp, h⟩ := Option.bind_eq_some_iff.mp h
 have HBP := Aside0.mk hbp
 clear hr0 hc0 hr1 hc1 hbp
 cases bp with
 | false =>
  obtain rfl := Option.some.inj (show some false = some r by simpa using h); clear h; go_enter Try.func45, Try.ntmps45
  go_wp2_with (first | (go_at_call 40; refine (impl_PolygonOk.calls k A0 c0 l0 false w HR0.out HC0.out HBP.out).mono ?_; rintro e w2 ⟨rfl, hb⟩; have HB := Aside0.mk hb; clear hb))
  go_ret
  exact ⟨rfl, HB.out⟩
 | true =>
  have HN := Aside0.mk (it_poly_len HBP.out); rw [if_pos rfl] at h; by_cases d1 : (l1.length : Int) = wrap64 ((l0.length : Int) - 2)
  rotate_left
  ·rw [if_neg d1] at h
   obtain rfl := Option.some.inj h; have d1b : ((l1.length : Int) == wrap64 ((l0.length : Int) - 2)) = false := beq_eq_false_iff_ne.mpr d1; have d1n : ((l1.length : Int) != wrap64 ((l0.length : Int) - 2)) = true := bne_iff_ne.mpr d1; clear h d1; go_enter Try.func45, Try.ntmps45
   go_wp2_with (first | (go_at_call 40; refine (impl_PolygonOk.calls k A0 c0 l0 true w HR0.out HC0.out HBP.out).mono ?_; rintro e w2 ⟨rfl, hb⟩; have HB := Aside0.mk hb; clear hb))
   go_ret
   exact ⟨rfl, HB.out⟩
  ·rw [if_pos d1] at h
   have d1b : ((l1.length : Int) == wrap64 ((l0.length : Int) - 2)) = true := beq_iff_eq.mpr d1; have d1n : ((l1.length : Int) != wrap64 ((l0.length : Int) - 2)) = false := by rw [bne, d1b]; rfl
   have HL1 := Aside0.mk (show l1.length + 2 = l0.length from by rw [RowKit.wrap64] at d1; have := HN.out; omega); clear d1; obtain ⟨o, ho, h⟩ := Option.bind_eq_some_iff.mp h; have H := Aside0.mk h; have HO := Aside0.mk ho; clear h ho; go_enter Try.func45, Try.ntmps45
   go_wp2_with (first | (go_at_call 40; refine (impl_PolygonOk.calls k A0 c0 l0 true w HR0.out HC0.out HBP.out).mono ?_; rintro e w2 ⟨rfl, hb⟩; have HB := Aside0.mk hb; clear hb))
   have HW0 : Aside0 (ItW w (w2.alloc (.map #[] 0)) w2.heap.size 0 (itF [])) := ⟨⟨below_step HB.out (below_alloc (Below.refl _ _) _), HB.out.size, _, World.ownsMap_made _ _ _ _, ItM.empty⟩⟩; clear HB d1b d1n; generalize w2.alloc (.map #[] 0) = w3 at HW0 ⊢
   generalize w2.heap.size = g at HW0 ⊢
   go_loopg [31, 6] l1.length (fun kq v31 v6 w' => ∃ (j : Nat) (area : Int) (ks : List (Int × Int)), v31 = .int .i64 (j : Int) ∧ v6 = .int .i64 area ∧ Aside0 (kq + j = l1.length) ∧ Aside0 (itRows l0 (l1.drop j) area ks = some o) ∧ Aside0 (ItW w w' g (3 * j) (itF ks)) ∧ Aside0 (ks.length = 3 * j ∧ ∀ q ∈ ks, ItR q.1 ∧ ItR q.2))
   case atStart => exact ⟨0, 0, [], rfl, rfl, ⟨by omega⟩, HO, HW0, ⟨rfl, by simp⟩⟩
   case round =>
    clear HO HW0; obtain ⟨j, area, ks, rfl, rfl, HK, HA, HW, HKL⟩ := hrel; by_cases cj : j < l1.length
    ·have cjb : decide ((j : Int) < (l1.length : Int)) = true := decide_eq_true (by omega)
     have cjn : decide (j < l1.length) = true := decide_eq_true cj; have cjc : ((j : Int) < (l1.length : Int)) = True := eq_true (by omega); have cjd : (0 ≤ (j : Int)) = True := eq_true (by omega); obtain ⟨adr, Ar, cr, er, hx, hl, hi⟩ := at_L3 HR1.out (j : Int) (by omega) (by omega); have hdrop : l1.drop j = rd_L3 l1 (j : Int) :: l1.drop (j + 1) := by
      rw [List.drop_eq_getElem_cons cj]; congr 1
      simp [rd_L3, List.getD_eq_getElem?_getD, cj]
     have ha := HA.out; rw [hdrop, itRows] at ha; obtain ⟨orow, hor, hrest⟩ := Option.bind_eq_some_iff.mp ha; clear ha HA hdrop; simp only [Int.toNat_natCast] at hx; have w1 : wrap64 ((j : Int) + 1) = ((j + 1 : Nat) : Int) := by rw [show wrap64 ((j : Int) + 1) = (j : Int) + 1 from by have := HN.out; have := HL1.out; unfold wrap64; omega]; rfl
     have W1 := Aside0.mk w1; have HJ := Aside0.mk cj; clear w1 cj; subst er
     generalize rd_L3 l1 (j : Int) = t at hx hl hi hor hrest
     have HX := Aside0.mk (it_cell HW.out.below hx); have hx2 := HX.out; have HI := Aside0.mk hi; have HOR := Aside0.mk hor; have HREST := Aside0.mk hrest; clear hx hl hi hor hrest; go_upto_region 8 with (fail)
     clear hx2; go_cut [68] (fun v68 wc => v68 = .bool (!(itOkB (l0.length : Int) t)) ∧ Aside0 (ItW w wc g (3 * j) (itF ks)))
     case first =>
      by_cases e1 : (t.length : Int) = 3
      rotate_left
      ·have HOK := Aside0.mk (show itOkB (l0.length : Int) t = false from decide_eq_false (fun z => e1 z.1))
       have g1b : ((t.length : Int) == 3) = false := beq_eq_false_iff_ne.mpr e1; have g1n : ((t.length : Int) != 3) = true := bne_iff_ne.mpr e1; have g1c : ((t.length : Int) = 3) = False := eq_false e1; have g1d : ¬ (t.length = 3) := by omega
       have g1e : (t.length = 3) = False := eq_false g1d; clear e1 g1d; refine start_ (n := 34) (S := fun w' => ItW w w' g (3 * j) (itF ks)) (ds := []) (qD_ 34 0) (by kernel_rfl) rfl rfl HW.out.drew (fun hHeld => ?_); refine with_tabW impl_IsTriangulation.tab8 impl_IsTriangulation.bits8 (fun HT_ HW_ => ?_); iterate 34 (first | (refine hz_ HT_ ?zy ?zp ?_ (v := ?_) (a' := ?_); (case zy => intro w'; go_simp; with_reducible rfl); (case zp => simp only [Act.put, List.setIfInBounds_toArray, List.set_cons_zero, List.set_cons_succ, i64_w, i32_w]; rfl)) | (refine hu_ HT_ ?zp ?_ (a' := ?_); (case zp => simp only [Act.put, List.setIfInBounds_toArray, List.set_cons_zero, List.set_cons_succ, i64_w, i32_w]; rfl)))
       refine done_ (done_of HT_.out (by kernel_rfl)) ?_; go_wp2
       go_meet
       case rel => exact ⟨by rw [HOK.out]; rfl, ⟨hHeld⟩⟩
      ·obtain ⟨ad, ea, ha0⟩ := Kd.at_int HI.out 0 (by omega) (by omega)
       obtain ⟨ad2, eb, ha1⟩ := Kd.at_int HI.out 1 (by omega) (by omega); obtain ⟨ad3, ec, ha2⟩ := Kd.at_int HI.out 2 (by omega) (by omega); obtain rfl : ad = ad2 := by rw [ea] at eb; injection eb
       obtain rfl : ad = ad3 := by rw [ea] at ec; injection ec
       subst ea
       clear eb ec; (try rw [show ((0 : Int)).toNat = 0 from rfl] at ha0); (try rw [Addr.add_zero'] at ha0); (try simp only [show (1 : Int).toNat = 1 from rfl, Nat.reduceMul, Nat.reduceEqDiff, Go.Addr.add, ↓reduceIte] at ha1); (try simp only [show (2 : Int).toNat = 2 from rfl, Nat.reduceMul, Nat.reduceEqDiff, Go.Addr.add, ↓reduceIte] at ha2); have g1b : ((t.length : Int) == 3) = true := beq_iff_eq.mpr e1; have g1n : ((t.length : Int) != 3) = false := by rw [bne, g1b]; rfl
       have q1 : (0 < t.length) = True := eq_true (by omega); have q2 : (1 < t.length) = True := eq_true (by omega); have q3 : (2 < t.length) = True := eq_true (by omega); have q4 : decide ((0 : Int) < (t.length : Int)) = true := decide_eq_true (by omega); have q5 : decide ((1 : Int) < (t.length : Int)) = true := decide_eq_true (by omega); have q6 : decide ((2 : Int) < (t.length : Int)) = true := decide_eq_true (by omega); have q7 : ((1 : Int) < (t.length : Int)) = True := eq_true (by omega); have q8 : ((2 : Int) < (t.length : Int)) = True := eq_true (by omega); have q9 : ((0 : Int) < (t.length : Int)) = True := eq_true (by omega); by_cases e2 : rd t 0 < 0
       ·have HOK := Aside0.mk (show itOkB (l0.length : Int) t = false from decide_eq_false (fun z => z.2.1 e2))
        have g2b : decide (rd t 0 < 0) = true := decide_eq_true e2; clear e1 e2; refine start_ (n := 34) (S := fun w' => ItW w w' g (3 * j) (itF ks)) (ds := []) (qD_ 34 0) (by kernel_rfl) rfl rfl HW.out.drew (fun hHeld => ?_); refine with_tabW impl_IsTriangulation.tab8 impl_IsTriangulation.bits8 (fun HT_ HW_ => ?_); iterate 34 (first | (refine hz_ HT_ ?zy ?zp ?_ (v := ?_) (a' := ?_); (case zy => intro w'; go_simp; with_reducible rfl); (case zp => simp only [Act.put, List.setIfInBounds_toArray, List.set_cons_zero, List.set_cons_succ, i64_w, i32_w]; rfl)) | (refine hu_ HT_ ?zp ?_ (a' := ?_); (case zp => simp only [Act.put, List.setIfInBounds_toArray, List.set_cons_zero, List.set_cons_succ, i64_w, i32_w]; rfl)) | (refine ht_ HT_ HW_ hHeld ?zy ?zp ?_ (v := ?_) (a' := ?_); (case zy => rintro w' s_; have t0_ := it_cell s_.below ha0; have t1_ := it_cell s_.below ha1; have t2_ := it_cell s_.below ha2; go_simp; with_reducible rfl); (case zp => simp only [Act.put, List.setIfInBounds_toArray, List.set_cons_zero, List.set_cons_succ, i64_w, i32_w]; rfl)))
        refine done_ (done_of HT_.out (by kernel_rfl)) ?_; go_wp2
        go_meet
        case rel => exact ⟨by rw [HOK.out]; rfl, ⟨hHeld⟩⟩
       ·have g2b : decide (rd t 0 < 0) = false := decide_eq_false e2
        by_cases e3 : rd t 0 ≥ rd t 1
        ·have HOK := Aside0.mk (show itOkB (l0.length : Int) t = false from decide_eq_false (fun z => z.2.2.1 e3))
         have g3b : decide (rd t 1 ≤ rd t 0) = true := decide_eq_true e3; clear e1 e2 e3; refine start_ (n := 34) (S := fun w' => ItW w w' g (3 * j) (itF ks)) (ds := []) (qD_ 34 0) (by kernel_rfl) rfl rfl HW.out.drew (fun hHeld => ?_); refine with_tabW impl_IsTriangulation.tab8 impl_IsTriangulation.bits8 (fun HT_ HW_ => ?_); iterate 34 (first | (refine hz_ HT_ ?zy ?zp ?_ (v := ?_) (a' := ?_); (case zy => intro w'; go_simp; with_reducible rfl); (case zp => simp only [Act.put, List.setIfInBounds_toArray, List.set_cons_zero, List.set_cons_succ, i64_w, i32_w]; rfl)) | (refine hu_ HT_ ?zp ?_ (a' := ?_); (case zp => simp only [Act.put, List.setIfInBounds_toArray, List.set_cons_zero, List.set_cons_succ, i64_w, i32_w]; rfl)) | (refine ht_ HT_ HW_ hHeld ?zy ?zp ?_ (v := ?_) (a' := ?_); (case zy => rintro w' s_; have t0_ := it_cell s_.below ha0; have t1_ := it_cell s_.below ha1; have t2_ := it_cell s_.below ha2; go_simp; with_reducible rfl); (case zp => simp only [Act.put, List.setIfInBounds_toArray, List.set_cons_zero, List.set_cons_succ, i64_w, i32_w]; rfl)))
         refine done_ (done_of HT_.out (by kernel_rfl)) ?_; go_wp2
         go_meet
         case rel => exact ⟨by rw [HOK.out]; rfl, ⟨hHeld⟩⟩
        ·have g3b : decide (rd t 1 ≤ rd t 0) = false := decide_eq_false e3
         by_cases e4 : rd t 1 ≥ rd t 2
         ·have HOK := Aside0.mk (show itOkB (l0.length : Int) t = false from decide_eq_false (fun z => z.2.2.2.1 e4))
          have g4b : decide (rd t 2 ≤ rd t 1) = true := decide_eq_true e4; clear e1 e2 e3 e4; refine start_ (n := 34) (S := fun w' => ItW w w' g (3 * j) (itF ks)) (ds := []) (qD_ 34 0) (by kernel_rfl) rfl rfl HW.out.drew (fun hHeld => ?_); refine with_tabW impl_IsTriangulation.tab8 impl_IsTriangulation.bits8 (fun HT_ HW_ => ?_); iterate 34 (first | (refine hz_ HT_ ?zy ?zp ?_ (v := ?_) (a' := ?_); (case zy => intro w'; go_simp; with_reducible rfl); (case zp => simp only [Act.put, List.setIfInBounds_toArray, List.set_cons_zero, List.set_cons_succ, i64_w, i32_w]; rfl)) | (refine hu_ HT_ ?zp ?_ (a' := ?_); (case zp => simp only [Act.put, List.setIfInBounds_toArray, List.set_cons_zero, List.set_cons_succ, i64_w, i32_w]; rfl)) | (refine ht_ HT_ HW_ hHeld ?zy ?zp ?_ (v := ?_) (a' := ?_); (case zy => rintro w' s_; have t0_ := it_cell s_.below ha0; have t1_ := it_cell s_.below ha1; have t2_ := it_cell s_.below ha2; go_simp; with_reducible rfl); (case zp => simp only [Act.put, List.setIfInBounds_toArray, List.set_cons_zero, List.set_cons_succ, i64_w, i32_w]; rfl)))
          refine done_ (done_of HT_.out (by kernel_rfl)) ?_; go_wp2
          go_meet
          case rel => exact ⟨by rw [HOK.out]; rfl, ⟨hHeld⟩⟩
         ·have g4b : decide (rd t 2 ≤ rd t 1) = false := decide_eq_false e4
          by_cases e5 : rd t 2 ≥ (l0.length : Int)
          ·have HOK := Aside0.mk (show itOkB (l0.length : Int) t = false from decide_eq_false (fun z => z.2.2.2.2 e5))
           have g5b : decide ((l0.length : Int) ≤ rd t 2) = true := decide_eq_true e5; clear e1 e2 e3 e4 e5; refine start_ (n := 34) (S := fun w' => ItW w w' g (3 * j) (itF ks)) (ds := []) (qD_ 34 0) (by kernel_rfl) rfl rfl HW.out.drew (fun hHeld => ?_); refine with_tabW impl_IsTriangulation.tab8 impl_IsTriangulation.bits8 (fun HT_ HW_ => ?_); iterate 34 (first | (refine hz_ HT_ ?zy ?zp ?_ (v := ?_) (a' := ?_); (case zy => intro w'; go_simp; with_reducible rfl); (case zp => simp only [Act.put, List.setIfInBounds_toArray, List.set_cons_zero, List.set_cons_succ, i64_w, i32_w]; rfl)) | (refine hu_ HT_ ?zp ?_ (a' := ?_); (case zp => simp only [Act.put, List.setIfInBounds_toArray, List.set_cons_zero, List.set_cons_succ, i64_w, i32_w]; rfl)) | (refine ht_ HT_ HW_ hHeld ?zy ?zp ?_ (v := ?_) (a' := ?_); (case zy => rintro w' s_; have t0_ := it_cell s_.below ha0; have t1_ := it_cell s_.below ha1; have t2_ := it_cell s_.below ha2; go_simp; with_reducible rfl); (case zp => simp only [Act.put, List.setIfInBounds_toArray, List.set_cons_zero, List.set_cons_succ, i64_w, i32_w]; rfl)))
           refine done_ (done_of HT_.out (by kernel_rfl)) ?_; go_wp2
           go_meet
           case rel => exact ⟨by rw [HOK.out]; rfl, ⟨hHeld⟩⟩
          ·have g5b : decide ((l0.length : Int) ≤ rd t 2) = false := decide_eq_false e5
           have HOK := Aside0.mk (show itOkB (l0.length : Int) t = true from decide_eq_true ⟨e1, e2, e3, e4, e5⟩); clear e1 e2 e3 e4 e5; refine start_ (n := 34) (S := fun w' => ItW w w' g (3 * j) (itF ks)) (ds := []) (qD_ 34 0) (by kernel_rfl) rfl rfl HW.out.drew (fun hHeld => ?_); refine with_tabW impl_IsTriangulation.tab8 impl_IsTriangulation.bits8 (fun HT_ HW_ => ?_); iterate 34 (first | (refine hz_ HT_ ?zy ?zp ?_ (v := ?_) (a' := ?_); (case zy => intro w'; go_simp; with_reducible rfl); (case zp => simp only [Act.put, List.setIfInBounds_toArray, List.set_cons_zero, List.set_cons_succ, i64_w, i32_w]; rfl)) | (refine hu_ HT_ ?zp ?_ (a' := ?_); (case zp => simp only [Act.put, List.setIfInBounds_toArray, List.set_cons_zero, List.set_cons_succ, i64_w, i32_w]; rfl)) | (refine ht_ HT_ HW_ hHeld ?zy ?zp ?_ (v := ?_) (a' := ?_); (case zy => rintro w' s_; have t0_ := it_cell s_.below ha0; have t1_ := it_cell s_.below ha1; have t2_ := it_cell s_.below ha2; go_simp; with_reducible rfl); (case zp => simp only [Act.put, List.setIfInBounds_toArray, List.set_cons_zero, List.set_cons_succ, i64_w, i32_w]; rfl)))
           refine done_ (done_of HT_.out (by kernel_rfl)) ?_; go_wp2
           go_meet
           case rel => exact ⟨by rw [HOK.out]; rfl, ⟨hHeld⟩⟩
     case rest =>
      clear HW; obtain ⟨rfl, HW⟩ := hcut; by_cases ok : itOkB (l0.length : Int) t = true
      rotate_left
      ·rw [show itOkB (l0.length : Int) t = false by simpa using ok]
       have horo : orow = none := by
        have h1 := HOR.out; unfold itRow at h1
        by_cases e1 : (t.length : Int) = 3
        ·rw [if_pos e1] at h1
         by_cases e2 : rd t 0 < 0
         ·rw [if_pos e2] at h1; exact (Option.some.inj h1).symm
         ·rw [if_neg e2] at h1
          by_cases e3 : rd t 0 ≥ rd t 1
          ·rw [if_pos e3] at h1; exact (Option.some.inj h1).symm
          ·rw [if_neg e3] at h1
           by_cases e4 : rd t 1 ≥ rd t 2
           ·rw [if_pos e4] at h1; exact (Option.some.inj h1).symm
           ·rw [if_neg e4] at h1
            by_cases e5 : rd t 2 ≥ (l0.length : Int)
            ·rw [if_pos e5] at h1; exact (Option.some.inj h1).symm
            ·exact absurd (decide_eq_true ⟨e1, e2, e3, e4, e5⟩) ok
        ·rw [if_neg e1] at h1; exact (Option.some.inj h1).symm
       subst horo
       have ho2 := Option.some.inj HREST.out; subst ho2
       obtain rfl := Option.some.inj (show some false = some r from H.out); clear ok; go_wp2
       go_ret
       exact ⟨rfl, HW.out.below⟩
      ·rw [ok]
       obtain ⟨e1, e2, e3, e4, e5⟩ := of_decide_eq_true ok; clear ok; have h1 := HOR.out; unfold itRow at h1
       rw [if_pos e1, if_neg e2, if_neg e3, if_neg e4, if_neg e5] at h1; obtain ⟨c, hc, h1⟩ := Option.bind_eq_some_iff.mp h1; obtain ⟨ad, ea, ha0⟩ := Kd.at_int HI.out 0 (by omega) (by omega); obtain ⟨ad2, eb, ha1⟩ := Kd.at_int HI.out 1 (by omega) (by omega); obtain ⟨ad3, ec, ha2⟩ := Kd.at_int HI.out 2 (by omega) (by omega); obtain rfl : ad = ad2 := by rw [ea] at eb; injection eb
       obtain rfl : ad = ad3 := by rw [ea] at ec; injection ec
       subst ea
       clear eb ec; (try rw [show ((0 : Int)).toNat = 0 from rfl] at ha0); (try rw [Addr.add_zero'] at ha0); (try simp only [show (1 : Int).toNat = 1 from rfl, Nat.reduceMul, Nat.reduceEqDiff, Go.Addr.add, ↓reduceIte] at ha1); (try simp only [show (2 : Int).toNat = 2 from rfl, Nat.reduceMul, Nat.reduceEqDiff, Go.Addr.add, ↓reduceIte] at ha2); obtain ⟨adp, ep, hp0, hp1⟩ := at_T25 HR0.out (rd t 0) (by omega) (by omega); obtain ⟨adp2, ep2, hq0, hq1⟩ := at_T25 HR0.out (rd t 1) (by omega) (by omega); obtain ⟨adp3, ep3, hs0, hs1⟩ := at_T25 HR0.out (rd t 2) (by omega) (by omega); obtain rfl : adp = adp2 := by rw [ep] at ep2; injection ep2
       obtain rfl : adp = adp3 := by rw [ep] at ep3; injection ep3
       subst ep
       clear ep2 ep3; have f1 : ((t.length : Int)) = 3 := e1; have q1 : (0 < t.length) = True := eq_true (by omega); have q2 : (1 < t.length) = True := eq_true (by omega); have q3 : (2 < t.length) = True := eq_true (by omega); have q4 : decide ((0 : Int) < (t.length : Int)) = true := decide_eq_true (by omega); have q5 : decide ((1 : Int) < (t.length : Int)) = true := decide_eq_true (by omega); have q6 : decide ((2 : Int) < (t.length : Int)) = true := decide_eq_true (by omega); have q7 : ((1 : Int) < (t.length : Int)) = True := eq_true (by omega); have q8 : ((2 : Int) < (t.length : Int)) = True := eq_true (by omega); have q9 : ((0 : Int) < (t.length : Int)) = True := eq_true (by omega); have r1 : (0 ≤ rd t 0) = True := eq_true (by omega); have r2 : (0 ≤ rd t 1) = True := eq_true (by omega); have r3 : (0 ≤ rd t 2) = True := eq_true (by omega); have r4 : (rd t 0 < (l0.length : Int)) = True := eq_true (by omega); have r5 : (rd t 1 < (l0.length : Int)) = True := eq_true (by omega); have r6 : (rd t 2 < (l0.length : Int)) = True := eq_true (by omega); have r7 : decide (0 ≤ rd t 0) = true := decide_eq_true (by omega); have r8 : decide (0 ≤ rd t 1) = true := decide_eq_true (by omega); have r9 : decide (0 ≤ rd t 2) = true := decide_eq_true (by omega); have s1 : decide (rd t 0 < (l0.length : Int)) = true := decide_eq_true (by omega); have s2 : decide (rd t 1 < (l0.length : Int)) = true := decide_eq_true (by omega); have s3 : decide (rd t 2 < (l0.length : Int)) = true := decide_eq_true (by omega); have RA := Aside0.mk (show ItR (rd t 0) ∧ ItR (rd t 1) ∧ ItR (rd t 2) from by have := HN.out; unfold ItR; omega); have HC := Aside0.mk hc; have HROW := Aside0.mk h1; clear e1 e2 e3 e4 e5 f1 hc h1; have hkeys : itKeys t = [(rd t 0, rd t 1), (rd t 1, rd t 2), (rd t 0, rd t 2)] := rfl; have HKS := Aside0.mk hkeys; clear hkeys; generalize rd t 0 = ta at *
       generalize rd t 1 = tb at *
       generalize rd t 2 = tc at *
       generalize rd_T25 l0 ta = pa at hp0 hp1 HC
       generalize rd_T25 l0 tb = pb at hq0 hq1 HC
       generalize rd_T25 l0 tc = pc at hs0 hs1 HC
       go_upto_region 10 with (fail)
       go_cut [10] (fun v10 wc => v10 = .int .i64 c ∧ Aside0 (ItW w wc g (3 * j) (itF ks)))
       case first =>
        refine start_ (n := 20) (S := fun w' => ItW w w' g (3 * j) (itF ks)) (ds := []) (qD_ 20 0) (by kernel_rfl) rfl rfl HW.out.drew (fun hHeld => ?_); refine with_tabW impl_IsTriangulation.tab10 impl_IsTriangulation.bits10 (fun HT_ HW_ => ?_); clear HW; iterate 18 (first | (refine hz_ HT_ ?zy ?zp ?_ (v := ?_) (a' := ?_); (case zy => intro w'; go_simp; with_reducible rfl); (case zp => simp only [Act.put, List.setIfInBounds_toArray, List.set_cons_zero, List.set_cons_succ, i64_w, i32_w]; rfl)) | (refine ht_ HT_ HW_ hHeld ?zy ?zp ?_ (v := ?_) (a' := ?_); (case zy => rintro w' s_; have t0_ := it_cell s_.below ha0; have t1_ := it_cell s_.below ha1; have t2_ := it_cell s_.below ha2; have t3_ := it_cell s_.below hp0; have t4_ := it_cell s_.below hp1; have t5_ := it_cell s_.below hq0; have t6_ := it_cell s_.below hq1; have t7_ := it_cell s_.below hs0; have t8_ := it_cell s_.below hs1; go_simp; with_reducible rfl); (case zp => simp only [Act.put, List.setIfInBounds_toArray, List.set_cons_zero, List.set_cons_succ, i64_w, i32_w]; rfl)))
        refine one_ (i := 18) (N := some 87) (qD_ 20 19) rfl rfl (one_of HT_.out (by kernel_rfl)) (by decide) (fun K hK => ?_); refine goes_ Try.func38 (by kernel_rfl) rfl #[.agg #[.int .i64 pa.f0, .int .i64 pa.f1], .agg #[.int .i64 pb.f0, .int .i64 pb.f1], .agg #[.int .i64 pc.f0, .int .i64 pc.f1]] (by rfl) rfl rfl (by (try simp only [List.map_toArray, List.map_cons, List.map_nil]); first | done | rfl) ?_; with_reducible refine (impl_cross.calls pa.f0 pa.f1 pb.f0 pb.f1 pc.f0 pc.f1 c _ HC.out).mono ?_
        rintro e w21 ⟨rfl, hb⟩
        refine ⟨_, rfl, ?_⟩; refine hK.out _ _ (hHeld.step hb) (fun hHeld => ?_); clear hK K; refine norm_ (a' := ?_) ?_ ?_; rotate_left
        ·show Act.put _ (some 87) _ = _
         simp only [Act.put, List.setIfInBounds_toArray, List.set_cons_zero, List.set_cons_succ, i64_w, i32_w]; rfl
        iterate 1 (first | (refine hz_ HT_ ?zy ?zp ?_ (v := ?_) (a' := ?_); (case zy => intro w'; go_simp; with_reducible rfl); (case zp => simp only [Act.put, List.setIfInBounds_toArray, List.set_cons_zero, List.set_cons_succ, i64_w, i32_w]; rfl)))
        refine done_ (done_of HT_.out (by kernel_rfl)) ?_; go_wp2
        go_meet
        case rel => exact ⟨rfl, ⟨hHeld⟩⟩
       case rest =>
        clear HW hp0 hp1 hq0 hq1 hs0 hs1 r1 r2 r3 r4 r5 r6 r7 r8 r9 s1 s2 s3; obtain ⟨rfl, HW⟩ := hcut; by_cases c10 : c = 0
        ·have h1 := HROW.out
         rw [if_pos c10] at h1; have horo := Option.some.inj h1; subst horo
         have ho2 := Option.some.inj HREST.out; subst ho2
         obtain rfl := Option.some.inj (show some false = some r from H.out); subst c10
         clear h1 ha0 ha1 ha2; go_wp2
         go_ret
         exact ⟨rfl, HW.out.below⟩
        ·have h1 := HROW.out
         rw [if_neg c10] at h1; have c10b : (c == 0) = false := beq_eq_false_iff_ne.mpr c10; obtain ⟨s, hs, h1⟩ := Option.bind_eq_some_iff.mp h1; have horo := Option.some.inj h1; subst horo
         have hrest := HREST.out; have HS := Aside0.mk hs; have HREST2 := Aside0.mk (show itRows l0 (l1.drop (j + 1)) (wrap64 (area + s)) (ks ++ itKeys t) = some o from hrest); clear h1 hs hrest c10 HREST HOR HROW; go_upto_region 14 with (first | (go_at_call 48; refine (impl_size.calls c s _ HS.out).mono ?_; rintro e w5 ⟨rfl, hb⟩; have HW5 := Aside0.mk (HW.out.step hb); clear HW hb; have HW := HW5; clear HW5))
         clear c10b; go_cut [] (fun wc => Aside0 (ItW w wc g (3 * j + 1) (itF (ks ++ [(ta, tb)]))))
         case first =>
          refine start_ (n := 13) (S := fun w' => ItS w w' g ta tb (itCnt ks ta tb)) (ds := [12]) (qD_ 13 0) (by kernel_rfl) rfl rfl (by have z_ := HW.out.drew.toS RA.out.1 RA.out.2.1; rw [itF_get] at z_; exact z_) (fun hHeld => ?_); refine with_tabW impl_IsTriangulation.tab14 impl_IsTriangulation.bits14 (fun HT_ HW_ => ?_); have HQ := Aside0.mk HW.out.drew; clear HW; iterate 10 (first | (refine hz_ HT_ ?zy ?zp ?_ (v := ?_) (a' := ?_); (case zy => intro w'; go_simp; with_reducible rfl); (case zp => simp only [Act.put, List.setIfInBounds_toArray, List.set_cons_zero, List.set_cons_succ, i64_w, i32_w]; rfl)) | (refine ht_ HT_ HW_ hHeld ?zy ?zp ?_ (v := ?_) (a' := ?_); (case zy => rintro w' s_; have t0_ := it_cell s_.below ha0; have t1_ := it_cell s_.below ha1; have t2_ := s_.look; go_simp; with_reducible rfl); (case zp => simp only [Act.put, List.setIfInBounds_toArray, List.set_cons_zero, List.set_cons_succ, i64_w, i32_w]; rfl)))
          obtain ⟨v0, st, w21, hrun, hS1, hst⟩ := HQ.out.entry (by have := HJ.out; have := HL1.out; have := HN.out; omega) RA.out.1 RA.out.2.1; rw [itF_get] at hS1; refine one_ (i := 10) (N := some 104) (qD_ 13 11) rfl rfl (one_of HT_.out (by kernel_rfl)) (by decide) (fun K hK => ?_); refine event_step (w1 := w21) (v := .tuple #[v0, .int .i64 st]) (by rfl) (by first | (go_simp; done) | (go_simp; rfl)) ?_; refine hK.out _ _ (hS1) (fun hHeld => ?_); clear hK K; refine norm_ (a' := ?_) ?_ ?_; rotate_left
          ·show Act.put _ (some 104) _ = _
           simp only [Act.put, List.setIfInBounds_toArray, List.set_cons_zero, List.set_cons_succ, i64_w, i32_w]; rfl
          clear hrun; iterate 1 (first | (refine hz_ HT_ ?zy ?zp ?_ (v := ?_) (a' := ?_); (case zy => intro w'; go_simp; with_reducible rfl); (case zp => simp only [Act.put, List.setIfInBounds_toArray, List.set_cons_zero, List.set_cons_succ, i64_w, i32_w]; rfl)))
          obtain ⟨w22, hr2, hW2⟩ := hst (wrap64 (itCnt ks ta tb + 1)) (wrap64_wf _); refine last_ (i := 12) (N := none) (qD_ 13 13) rfl rfl (one_of HT_.out (by kernel_rfl)) (by decide) (fun K hK => ?_); refine skip_ (w1 := w22) (by rfl) rfl (by first | (go_simp; done) | (go_simp; rfl)) ?_; refine hK.out _ _ ?_; clear hK K; refine done_ (done_of HT_.out (by kernel_rfl)) ?_; go_wp2
          go_meet
          case rel =>
           have z_ := itCnt_nn ks ta tb; have zl_ : ks.length = ks.length + 0 := by rfl
           rw [show wrap64 (itCnt ks ta tb + 1) = itCnt ks ta tb + 1 from by have := HKL.out.1; have := HJ.out; have := HL1.out; have := HN.out; unfold wrap64; omega, itF_snoc] at hW2; exact ⟨hW2⟩
         case rest =>
          clear HW; have HW := hcut; clear hcut; obtain ⟨k1, hk_⟩ : ∃ z_, ks ++ [(ta, tb)] = z_ := ⟨_, rfl⟩; rw [hk_] at HW; have HK1 := Aside0.mk hk_; clear hk_; go_upto_region 15 with (fail)
          go_cut [] (fun wc => Aside0 (ItW w wc g (3 * j + 2) (itF (k1 ++ [(tb, tc)]))))
          case first =>
           refine start_ (n := 13) (S := fun w' => ItS w w' g tb tc (itCnt k1 tb tc)) (ds := [12]) (qD_ 13 0) (by kernel_rfl) rfl rfl (by have z_ := HW.out.drew.toS RA.out.2.1 RA.out.2.2; rw [itF_get] at z_; exact z_) (fun hHeld => ?_); refine with_tabW impl_IsTriangulation.tab15 impl_IsTriangulation.bits15 (fun HT_ HW_ => ?_); have HQ := Aside0.mk HW.out.drew; clear HW; iterate 10 (first | (refine hz_ HT_ ?zy ?zp ?_ (v := ?_) (a' := ?_); (case zy => intro w'; go_simp; with_reducible rfl); (case zp => simp only [Act.put, List.setIfInBounds_toArray, List.set_cons_zero, List.set_cons_succ, i64_w, i32_w]; rfl)) | (refine ht_ HT_ HW_ hHeld ?zy ?zp ?_ (v := ?_) (a' := ?_); (case zy => rintro w' s_; have t0_ := it_cell s_.below ha1; have t1_ := it_cell s_.below ha2; have t2_ := s_.look; go_simp; with_reducible rfl); (case zp => simp only [Act.put, List.setIfInBounds_toArray, List.set_cons_zero, List.set_cons_succ, i64_w, i32_w]; rfl)))
           obtain ⟨v0, st, w21, hrun, hS1, hst⟩ := HQ.out.entry (by have := HJ.out; have := HL1.out; have := HN.out; omega) RA.out.2.1 RA.out.2.2; rw [itF_get] at hS1; refine one_ (i := 10) (N := some 116) (qD_ 13 11) rfl rfl (one_of HT_.out (by kernel_rfl)) (by decide) (fun K hK => ?_); refine event_step (w1 := w21) (v := .tuple #[v0, .int .i64 st]) (by rfl) (by first | (go_simp; done) | (go_simp; rfl)) ?_; refine hK.out _ _ (hS1) (fun hHeld => ?_); clear hK K; refine norm_ (a' := ?_) ?_ ?_; rotate_left
           ·show Act.put _ (some 116) _ = _
            simp only [Act.put, List.setIfInBounds_toArray, List.set_cons_zero, List.set_cons_succ, i64_w, i32_w]; rfl
           clear hrun; iterate 1 (first | (refine hz_ HT_ ?zy ?zp ?_ (v := ?_) (a' := ?_); (case zy => intro w'; go_simp; with_reducible rfl); (case zp => simp only [Act.put, List.setIfInBounds_toArray, List.set_cons_zero, List.set_cons_succ, i64_w, i32_w]; rfl)))
           obtain ⟨w22, hr2, hW2⟩ := hst (wrap64 (itCnt k1 tb tc + 1)) (wrap64_wf _); refine last_ (i := 12) (N := none) (qD_ 13 13) rfl rfl (one_of HT_.out (by kernel_rfl)) (by decide) (fun K hK => ?_); refine skip_ (w1 := w22) (by rfl) rfl (by first | (go_simp; done) | (go_simp; rfl)) ?_; refine hK.out _ _ ?_; clear hK K; refine done_ (done_of HT_.out (by kernel_rfl)) ?_; go_wp2
           go_meet
           case rel =>
            have z_ := itCnt_nn k1 tb tc; have zl_ : k1.length = ks.length + 1 := by rw [← HK1.out]; simp
            rw [show wrap64 (itCnt k1 tb tc + 1) = itCnt k1 tb tc + 1 from by have := HKL.out.1; have := HJ.out; have := HL1.out; have := HN.out; unfold wrap64; omega, itF_snoc] at hW2; exact ⟨hW2⟩
          case rest =>
           clear HW; have HW := hcut; clear hcut; obtain ⟨k2, hk_⟩ : ∃ z_, k1 ++ [(tb, tc)] = z_ := ⟨_, rfl⟩; rw [hk_] at HW; have HK2 := Aside0.mk hk_; clear hk_; go_upto_region 16 with (fail)
           refine start_ (n := 13) (S := fun w' => ItS w w' g ta tc (itCnt k2 ta tc)) (ds := [12]) (qD_ 13 0) (by kernel_rfl) rfl rfl (by have z_ := HW.out.drew.toS RA.out.1 RA.out.2.2; rw [itF_get] at z_; exact z_) (fun hHeld => ?_); refine with_tabW impl_IsTriangulation.tab16 impl_IsTriangulation.bits16 (fun HT_ HW_ => ?_); have HQ := Aside0.mk HW.out.drew; clear HW; iterate 10 (first | (refine hz_ HT_ ?zy ?zp ?_ (v := ?_) (a' := ?_); (case zy => intro w'; go_simp; with_reducible rfl); (case zp => simp only [Act.put, List.setIfInBounds_toArray, List.set_cons_zero, List.set_cons_succ, i64_w, i32_w]; rfl)) | (refine ht_ HT_ HW_ hHeld ?zy ?zp ?_ (v := ?_) (a' := ?_); (case zy => rintro w' s_; have t0_ := it_cell s_.below ha0; have t1_ := it_cell s_.below ha2; have t2_ := s_.look; go_simp; with_reducible rfl); (case zp => simp only [Act.put, List.setIfInBounds_toArray, List.set_cons_zero, List.set_cons_succ, i64_w, i32_w]; rfl)))
           obtain ⟨v0, st, w21, hrun, hS1, hst⟩ := HQ.out.entry (by have := HJ.out; have := HL1.out; have := HN.out; omega) RA.out.1 RA.out.2.2; rw [itF_get] at hS1; refine one_ (i := 10) (N := some 128) (qD_ 13 11) rfl rfl (one_of HT_.out (by kernel_rfl)) (by decide) (fun K hK => ?_); refine event_step (w1 := w21) (v := .tuple #[v0, .int .i64 st]) (by rfl) (by first | (go_simp; done) | (go_simp; rfl)) ?_; refine hK.out _ _ (hS1) (fun hHeld => ?_); clear hK K; refine norm_ (a' := ?_) ?_ ?_; rotate_left
           ·show Act.put _ (some 128) _ = _
            simp only [Act.put, List.setIfInBounds_toArray, List.set_cons_zero, List.set_cons_succ, i64_w, i32_w]; rfl
           clear hrun; iterate 1 (first | (refine hz_ HT_ ?zy ?zp ?_ (v := ?_) (a' := ?_); (case zy => intro w'; go_simp; with_reducible rfl); (case zp => simp only [Act.put, List.setIfInBounds_toArray, List.set_cons_zero, List.set_cons_succ, i64_w, i32_w]; rfl)))
           obtain ⟨w22, hr2, hW2⟩ := hst (wrap64 (itCnt k2 ta tc + 1)) (wrap64_wf _); refine last_ (i := 12) (N := none) (qD_ 13 13) rfl rfl (one_of HT_.out (by kernel_rfl)) (by decide) (fun K hK => ?_); refine skip_ (w1 := w22) (by rfl) rfl (by first | (go_simp; done) | (go_simp; rfl)) ?_; refine hK.out _ _ ?_; clear hK K; refine done_ (done_of HT_.out (by kernel_rfl)) ?_; have z_ := itCnt_nn k2 ta tc; have zl_ : k2.length = ks.length + 2 := by rw [← HK2.out, ← HK1.out]; simp
           rw [show wrap64 (itCnt k2 ta tc + 1) = itCnt k2 ta tc + 1 from by have := HKL.out.1; have := HJ.out; have := HL1.out; have := HN.out; unfold wrap64; omega, itF_snoc] at hW2; have HW := Aside0.mk hW2; clear hW2 z_ zl_ hr2 hst hHeld hS1; clear ha0 ha1 ha2; have HKE := Aside0.mk (show ks ++ itKeys t = k2 ++ [(ta, tc)] from by rw [HKS.out, ← HK2.out, ← HK1.out]; simp); go_wp2
           go_roundg (gk - 1)
           case measure => have := HK.out; have := HJ.out; omega
           case rel => exact ⟨j + 1, wrap64 (area + s), ks ++ itKeys t, by rw [W1.out], rfl, ⟨by have := HK.out; have := HJ.out; omega⟩, HREST2, ⟨by rw [HKE.out]; exact HW.out⟩, ⟨by have := HKL.out.1; rw [HKS.out]; simp only [List.length_append, List.length_cons, List.length_nil]; omega, it_ranges HKL.out.2 HKS.out RA.out.1 RA.out.2.1 RA.out.2.2⟩⟩
    ·have hj : j = l1.length := by have := HK.out; omega
     have cjb : decide ((j : Int) < (l1.length : Int)) = false := decide_eq_false (by omega); have cjn : decide (j < l1.length) = false := decide_eq_false cj; have ha := HA.out; rw [hj, List.drop_length] at ha; have ho2 := Option.some.inj (show some (some (area, ks)) = some o from ha); subst ho2
     have HKR := Aside0.mk HKL.out.2; have HKS := Aside0.mk (show ks.length ≤ 24 by have := HKL.out.1; have := HL1.out; have := HN.out; omega); have HJ := Aside0.mk hj; have HG0 : Aside0 (ItW w wr g 24 (itG ks l0.length 0)) := ⟨by rw [itG_zero]; exact HW.out.mono (by have := HL1.out; have := HN.out; omega)⟩; have H2 := Aside0.mk (show (if itSides ks l0.length l0.length 0 = true then if itRest ks l0.length = true then (impl_twice.f k l0).bind fun t => (impl_size.f t).bind fun s => some (decide (area = s)) else some false else some false) = some r from H.out); clear cj hj ha HA HK HW HKL H; go_wp2
     go_loopg [132] l0.length (fun kq v132 w' => ∃ (i : Nat), v132 = .int .i64 (i : Int) ∧ Aside0 (kq + i = l0.length) ∧ Aside0 ((if itSides ks l0.length kq i = true then if itRest ks l0.length = true then (impl_twice.f k l0).bind fun t => (impl_size.f t).bind fun s => some (decide (area = s)) else some false else some false) = some r) ∧ Aside0 (ItW w w' g 24 (itG ks l0.length i)))
     case atStart => exact ⟨0, rfl, ⟨by omega⟩, H2, HG0⟩
     case round =>
      clear H2 HG0; obtain ⟨i, rfl, HK, HA, HG⟩ := hrel; cases gk with
      | succ m =>
       have hi : i < l0.length := by have := HK.out; omega
       have cib : decide ((i : Int) < (l0.length : Int)) = true := decide_eq_true (by omega); have cin : decide (i < l0.length) = true := decide_eq_true hi; have w1 : wrap64 ((i : Int) + 1) = ((i + 1 : Nat) : Int) := by rw [show wrap64 ((i : Int) + 1) = (i : Int) + 1 from by have := HN.out; unfold wrap64; omega]; rfl
       have W1 := Aside0.mk w1; have HIL := Aside0.mk hi; obtain ⟨jm, hjm⟩ : ∃ j_ : Int, Int.tmod (wrap64 ((i : Int) + 1)) (l0.length : Int) = j_ := ⟨_, rfl⟩; have EJ := Aside0.mk (show jm = (((i + 1) % l0.length : Nat) : Int) by rw [← hjm, w1]; exact (Int.ofNat_tmod _ _)); have z0 : ((l0.length : Int) == 0) = false := beq_eq_false_iff_ne.mpr (by have := HN.out; omega); have z1 : ((l0.length : Int) != 0) = true := bne_iff_ne.mpr (by have := HN.out; omega); have z2 : ¬ (l0 = []) := fun h_ => by have := HN.out.1; rw [h_] at this; simp at this
       have HRR := Aside0.mk (it_rangeOk HN.out hi); clear w1 hi; go_upto_region 21 with (fail)
       go_cut [12] (fun v12 wc => ∃ gz, v12 = .pointer (some ⟨gz, 0, none⟩) ∧ Aside0 (ItW w wc g 24 (itG ks l0.length i)) ∧ Aside0 (wc.heap[gz]? = some (.cells #[.int .i64 (itLo l0.length i), .int .i64 (itHi l0.length i)] 88 (0, 0))))
       case first =>
        have hne : jm ≠ (i : Int) := by
         rw [EJ.out]; intro z_
         have := HN.out; by_cases c_ : i + 1 = l0.length
         ·rw [c_, Nat.mod_self] at z_; omega
         ·rw [Nat.mod_eq_of_lt (by have := HIL.out; omega)] at z_; omega
        by_cases cm : jm < (i : Int)
        ·have LO := Aside0.mk (show itLo l0.length i = jm from by unfold itLo mn; rw [← EJ.out]; rw [if_pos cm])
         have HI := Aside0.mk (show itHi l0.length i = (i : Int) from by unfold itHi mx; rw [← EJ.out]; rw [if_neg (by omega)]); have m1 : (jm < (i : Int)) = True := eq_true cm; have m2 : ((i : Int) < jm) = False := eq_false (by omega); have m3 : mn (i : Int) jm = jm := by unfold mn; rw [if_pos cm]
         have m4 : mx (i : Int) jm = (i : Int) := by unfold mx; rw [if_neg (by omega)]
         clear cm hne; refine start_ (n := 15) (S := fun w' => ItW w w' g 24 (itG ks l0.length i)) (ds := []) (qD_ 15 0) (by kernel_rfl) rfl rfl HG.out.drew (fun hHeld => ?_); refine with_tabW impl_IsTriangulation.tab21 impl_IsTriangulation.bits21 (fun HT_ HW_ => ?_); clear HG; generalize wr.drew = w20 at hHeld ⊢
         iterate 13 (first | (refine hz_ HT_ ?zy ?zp ?_ (v := ?_) (a' := ?_); (case zy => intro w'; go_simp; with_reducible rfl); (case zp => simp only [Act.put, List.setIfInBounds_toArray, List.set_cons_zero, List.set_cons_succ, i64_w, i32_w]; rfl)))
         have HQ := Aside0.mk hHeld; refine one_ (i := 13) (N := some 12) (qD_ 15 14) rfl rfl (one_of HT_.out (by kernel_rfl)) (by decide) (fun K hK => ?_); refine box_step ?hg (N := 12) ?hd (cs := #[.int .i64 0, .int .i64 0]) (t := 88) ?hr ?_; (case hd => rfl); (case hg => rfl); (case hr => first | (go_simp; done) | (go_simp; rfl)); intro gz hg w21 hbox hb
         have HNE := Aside0.mk (show g ≠ gz from by have := HQ.out.lt; omega); have HGE := Aside0.mk (show w.heap.size ≤ gz from by have := HQ.out.below.size; omega); have HBX := Aside0.mk hbox; refine hK.out _ _ (HQ.out.step hb) (fun hHeld => ?_); clear hK K; refine norm_ (a' := ?_) ?_ ?_; rotate_left
         ·show Act.put _ (some 12) _ = _
          simp only [Act.put, List.setIfInBounds_toArray, List.set_cons_zero, List.set_cons_succ, i64_w, i32_w]; rfl
         clear hg hbox hb HQ; have HQ := Aside0.mk hHeld; obtain ⟨hz0, hz1, hf0, hf1⟩ := it_zero2 HBX.out; refine one_ (i := 14) (N := none) (qD_ 15 15) rfl rfl (one_of HT_.out (by kernel_rfl)) (by decide) (fun K hK => ?_); refine skip_ (w1 := ?_) (by rfl) rfl ?_ ?_; rotate_left
         ·go_simp
          rfl
         refine hK.out _ _ ((HQ.out.set HNE.out HGE.out).set HNE.out HGE.out) (fun hHeld => ?_); clear hK K; refine done_ (done_of HT_.out (by kernel_rfl)) ?_; clear hz0 hz1 hf0 hf1; go_wp2
         go_meet
         case rel => exact ⟨gz, rfl, ⟨hHeld⟩, ⟨by rw [LO.out, HI.out]; exact it_store2 HBX.out⟩⟩
        ·have LO := Aside0.mk (show itLo l0.length i = (i : Int) from by unfold itLo mn; rw [← EJ.out]; rw [if_neg cm])
         have HI := Aside0.mk (show itHi l0.length i = jm from by unfold itHi mx; rw [← EJ.out]; rw [if_pos (by omega)]); have m1 : (jm < (i : Int)) = False := eq_false cm; have m2 : ((i : Int) < jm) = True := eq_true (by omega); have m3 : mn (i : Int) jm = (i : Int) := by unfold mn; rw [if_neg cm]
         have m4 : mx (i : Int) jm = jm := by unfold mx; rw [if_pos (by omega)]
         clear cm hne; refine start_ (n := 15) (S := fun w' => ItW w w' g 24 (itG ks l0.length i)) (ds := []) (qD_ 15 0) (by kernel_rfl) rfl rfl HG.out.drew (fun hHeld => ?_); refine with_tabW impl_IsTriangulation.tab21 impl_IsTriangulation.bits21 (fun HT_ HW_ => ?_); clear HG; generalize wr.drew = w20 at hHeld ⊢
         iterate 13 (first | (refine hz_ HT_ ?zy ?zp ?_ (v := ?_) (a' := ?_); (case zy => intro w'; go_simp; with_reducible rfl); (case zp => simp only [Act.put, List.setIfInBounds_toArray, List.set_cons_zero, List.set_cons_succ, i64_w, i32_w]; rfl)))
         have HQ := Aside0.mk hHeld; refine one_ (i := 13) (N := some 12) (qD_ 15 14) rfl rfl (one_of HT_.out (by kernel_rfl)) (by decide) (fun K hK => ?_); refine box_step ?hg (N := 12) ?hd (cs := #[.int .i64 0, .int .i64 0]) (t := 88) ?hr ?_; (case hd => rfl); (case hg => rfl); (case hr => first | (go_simp; done) | (go_simp; rfl)); intro gz hg w21 hbox hb
         have HNE := Aside0.mk (show g ≠ gz from by have := HQ.out.lt; omega); have HGE := Aside0.mk (show w.heap.size ≤ gz from by have := HQ.out.below.size; omega); have HBX := Aside0.mk hbox; refine hK.out _ _ (HQ.out.step hb) (fun hHeld => ?_); clear hK K; refine norm_ (a' := ?_) ?_ ?_; rotate_left
         ·show Act.put _ (some 12) _ = _
          simp only [Act.put, List.setIfInBounds_toArray, List.set_cons_zero, List.set_cons_succ, i64_w, i32_w]; rfl
         clear hg hbox hb HQ; have HQ := Aside0.mk hHeld; obtain ⟨hz0, hz1, hf0, hf1⟩ := it_zero2 HBX.out; refine one_ (i := 14) (N := none) (qD_ 15 15) rfl rfl (one_of HT_.out (by kernel_rfl)) (by decide) (fun K hK => ?_); refine skip_ (w1 := ?_) (by rfl) rfl ?_ ?_; rotate_left
         ·go_simp
          rfl
         refine hK.out _ _ ((HQ.out.set HNE.out HGE.out).set HNE.out HGE.out) (fun hHeld => ?_); clear hK K; refine done_ (done_of HT_.out (by kernel_rfl)) ?_; clear hz0 hz1 hf0 hf1; go_wp2
         go_meet
         case rel => exact ⟨gz, rfl, ⟨hHeld⟩, ⟨by rw [LO.out, HI.out]; exact it_store2 HBX.out⟩⟩
       case rest =>
        clear HG hjm z0 z1 z2 EJ; obtain ⟨gz, rfl, HG, HZ⟩ := hcut; obtain ⟨hz0, hz1⟩ := mt_box HZ.out; have hlook := HG.out.look HRR.out.1 HRR.out.2; rw [itG_side ks HN.out.1 HIL.out] at hlook; have ha := HA.out; rw [itSides] at ha; have HIJ := Aside0.mk (itG_del ks l0.length i); generalize itLo l0.length i = lo at *
        generalize itHi l0.length i = hi at *
        by_cases c1 : itCnt ks lo hi = 1
        rotate_left
        ·rw [show (itCnt ks lo hi == 1) = false from beq_eq_false_iff_ne.mpr c1, Bool.false_and] at ha
         obtain rfl := Option.some.inj (show some false = some r from ha); have c1b : (itCnt ks lo hi == 1) = false := beq_eq_false_iff_ne.mpr c1; have c1n : (itCnt ks lo hi != 1) = true := bne_iff_ne.mpr c1; clear ha c1; generalize itCnt ks lo hi = cn at hlook c1b c1n
         go_wp2
         go_ret
         exact ⟨rfl, HG.out.below⟩
        ·rw [c1] at hlook
         rw [show (itCnt ks lo hi == 1) = true from beq_iff_eq.mpr c1, Bool.true_and] at ha; have HA2 := Aside0.mk ha; clear ha c1 HA; obtain ⟨D, hown, hm⟩ := HG.out.map; have HM := Aside0.mk hm; have HKEY := Aside0.mk (it_key HRR.out.1 HRR.out.2); have HOWN := Aside0.mk hown; clear hm hown; go_wp2_with (first | (at_delete; refine wpList_delete_own _ rfl _ _ 87 88 rfl 3 it_keyed Try.underlying87 _ g 24 D rfl HOWN.out (.agg #[.int .i64 lo, .int .i64 hi]) (itLit lo hi) rfl HKEY.out ?_; intro w7 hown7 hturn7; have HG7 := Aside0.mk (it_turn HG.out HM.out HRR.out.1 HRR.out.2 hown7 hturn7); clear hown7 hturn7 hlook hz0 hz1))
         go_roundg m
         case measure => omega
         case rel => exact ⟨i + 1, by rw [W1.out], ⟨by have := HK.out; omega⟩, HA2, ⟨by rw [← HIJ.out]; exact HG7.out⟩⟩
      | zero =>
       have hi : i = l0.length := by have := HK.out; omega
       have cib : decide ((i : Int) < (l0.length : Int)) = false := decide_eq_false (by omega); have cin : decide (i < l0.length) = false := decide_eq_false (by omega); subst hi
       have HA2 := Aside0.mk (show (if itRest ks l0.length = true then (impl_twice.f k l0).bind fun t => (impl_size.f t).bind fun s => some (decide (area = s)) else some false) = some r from HA.out); clear HA HK; obtain ⟨D, hown, hm⟩ := HG.out.map; have HM := Aside0.mk hm; have HOWN := Aside0.mk hown; have HGB := Aside0.mk (And.intro HG.out.below HG.out.base); have HRX := Aside0.mk HG.out.below.size; clear hm hown HG; go_wp2_with (first | (at_range; refine wpList_range_own _ rfl _ 87 rfl 88 3 it_keyed Try.underlying87 _ g 24 D rfl HOWN.out ?_; intro w8 hrg hg8 hs8; have HRG := Aside0.mk hrg; have HB8 := Aside0.mk (HGB.out.1.grown hg8 HGB.out.1.size (fun k_ h_ => by cases h_)); clear hrg hg8 hs8))
       go_frame
       generalize wr.heap.size = rx at HRG HRX ⊢
       have HLS := Aside0.mk (ItL.start HM.out); go_loopg [158] (Maps.size D) (fun kq v158 w' => ∃ left cnt, Aside0 (w'.ranges Try.prog 88 (plainElem Try.prog 3) g rx 24 D left cnt) ∧ Aside0 (cnt ≤ kq) ∧ Aside0 (ItL D (itG ks l0.length l0.length) left) ∧ Aside0 (Below w.heap.size w w') ∧ Aside0 (w.heap.size ≤ rx))
       case atStart => exact ⟨_, _, HRG, ⟨Nat.le_refl _⟩, HLS, HB8, HRX⟩
       case round =>
        clear HRG HLS HB8 HOWN HRX; obtain ⟨left, cnt, HRG, HCN, HLS, HB8, HRX⟩ := hrel; go_wp2_with (first | (at_next; refine wpList_next_ranges _ rfl _ rfl 88 it_keyed (plainElem Try.prog 3) (id : Value → Value) (Value.int .i64) (fun key kl _ => ⟨key, rfl⟩) (fun v y hv => by obtain ⟨c, rfl, _⟩ := plainElem_int_inv Try.underlying3 hv; exact ⟨c, rfl⟩) g rx 24 D left cnt rfl HRG.out ?hDone ?hMore))
        case hDone =>
         intro hc0 hl0
         have hrest : itRest ks l0.length = true := it_rest_true HKR.out (fun a b ha hb c hc => HLS.out.two a b ha hb (hl0 _) c hc); have ha := HA2.out; rw [if_pos hrest] at ha; obtain ⟨tw, htw, ha⟩ := Option.bind_eq_some_iff.mp ha; obtain ⟨sz, hsz, ha⟩ := Option.bind_eq_some_iff.mp ha; have hr := Option.some.inj ha; have HTW := Aside0.mk htw; have HSZ := Aside0.mk hsz; have HR := Aside0.mk hr; clear hc0 hl0 hrest ha htw hsz hr; go_wp2_with (first | (go_at_call 74; refine (impl_twice.calls k A0 c0 l0 tw _ (Kd.C_below HR0.out HB8.out) HC0.out HTW.out).mono ?_; rintro e w9 ⟨rfl, hb⟩; have HB9 := Aside0.mk (below_step HB8.out hb); clear hb) | (go_at_call 48; refine (impl_size.calls tw sz _ HSZ.out).mono ?_; rintro e w10 ⟨rfl, hb⟩; have HB10 := Aside0.mk (below_step HB9.out hb); clear hb))
         go_ret
         exact ⟨by rw [← HR.out]; first | rfl | simp, HB10.out⟩
        case hMore =>
         intro x c kl ya yb w9 cnt1 hkx hlk hyc hat hrg1 hlt hg1 hs1 hen
         obtain ⟨c', ec, ey, hwc⟩ := plainElem_int_inv Try.underlying3 hyc; obtain rfl : c = c' := by injection ec
         have hat2 : ∀ zd, D.atKey kl zd = .lit (.int .i64 c) := fun zd => by rw [hat zd]; exact congrArg Prod.fst ey
         have HAT := Aside0.mk hat2; have HRG1 := Aside0.mk hrg1; have HLT := Aside0.mk hlt; have HB9 := Aside0.mk (HB8.out.grown hg1 HB8.out.size (fun k_ h_ => by cases h_; exact HRX.out)); have hen2 : (Instr.entry (.pointer (some ⟨rx, 0, none⟩))).run Try.prog w9 = .ok (.tuple #[x, .int .i64 c]) w9 := hen; clear hkx hlk hyc hat hrg1 hlt hg1 hs1 hen ec ey hwc hat2; by_cases c2 : c = 2
         ·subst c2
          have HLS2 := Aside0.mk (HLS.out.next HAT.out); go_wp2
          go_roundg (gk - 1)
          case measure => have := HCN.out; have := HLT.out; omega
          case rel => exact ⟨_, _, HRG1, ⟨by have := HCN.out; have := HLT.out; omega⟩, HLS2, HB9, HRX⟩
         ·have c2b : (c == 2) = false := beq_eq_false_iff_ne.mpr c2
          have c2n : (c != 2) = true := bne_iff_ne.mpr c2; obtain ⟨a, b, ha, hb, _, hf⟩ := HLS.out.value HAT.out; have h2 := HA2.out; rw [it_rest_false hf c2] at h2; obtain rfl := Option.some.inj (show some false = some r by simpa using h2); clear c2 h2 ha hb hf; go_wp2
          go_ret
          exact ⟨rfl, HB9.out⟩

end Go.Proofs.Ytihnhpohbpfkmaa.XFnColors
