/- How a law's arguments read as data: slices of ints, slices of such slices, as plain lists. Each holds of any program whose types have these forms. -/
import Derived.WalkKit
import Derived.ProofKit
import Derived.OpenShut
import Derived.ShutString
import Derived.ChangeOld
import Derived.Below
import Derived.SizedLaws
import Derived.ChangeSlices
import Derived.Deep.Matrix
import Derived.Deep.SlicePairs
import Derived.Lib.SmallJoins
import Derived.Test.YtihnhpohbpfkmaaWWords
namespace Go.Proofs.YtihnhpohbpfkmaaW.XRow
open Go.ChangeShapes Go.WideShapes Go.Proofs.YtihnhpohbpfkmaaW.PrintWords
set_option linter.unusedVariables false

section
variable {H : Type} {enc : TypeId × Value → H} {P : Program} {W : World} {base : Nat} {held : Bool}

theorem read_ints {t e : TypeId} {a : Option Addr} {len cap : Nat} {d : DataW H} {ps : List MemPlace} {ts : List TypeId} {ds : List (DataW H)} {j : Nat}
    (hsz : (DataW.weightsEach P ts ds).all (· ≤ reachBytes) = true) (ht : ts[j]? = some t) (hd : ds[j]? = some d) (hu : P.underlying t = some (.slice e)) (he : P.underlying e = some (.int .i64)) (hc : P.cellsOf e = 1) (hB : P.bytesOf e = 8)
    (h : DataW.Trod enc P W base (fun _ => true) held t (.slice a len cap) d ps) :
    ∃ l : List Int, len = l.length ∧ (Kd.int .i64).C W a l.length l ∧ l.length ≤ cap ∧ l.length ≤ maxLen ∧ l.length * 8 ≤ 140737488351232 ∧ ∀ x ∈ l, (Lit.int .i64 x).wf = true := by
  obtain ⟨fuel, hf⟩ := h
  rcases open_ints hu he hc hf with ⟨hcs, _⟩ | ⟨x, l, c, zs, hcs, _, hl, hm, hz, hx, hcell, hwz⟩
  · simp [Value.cells] at hcs
    obtain ⟨rfl, rfl, rfl⟩ := hcs
    exact ⟨[], rfl, ⟨rfl, by simp, fun h => by simp at h⟩, by simp, by simp, by simp, by simp⟩
  · simp [Value.cells] at hcs
    obtain ⟨rfl, rfl, rfl⟩ := hcs
    obtain ⟨hx, _⟩ := Prod.mk.inj hx
    subst hx
    have z := sized_slice hsz ht hd hu
    rw [hB] at z
    simp only [if_true] at hz
    have h1 : (lits (H := H) .i64 (zs.take len)).length + (lits (H := H) .i64 (zs.drop len)).length = zs.length := by
      simp [lits]
      omega
    rw [h1] at z
    have e1 : len = (zs.take len).length := by rw [List.length_take]; omega
    have hz8 : zs.length * 8 ≤ 140737488351232 := z
    refine ⟨zs.take len, e1, ?_, by omega, by omega, by rw [← e1]; omega, fun y hy => hwz y (List.mem_of_mem_take hy)⟩
    rw [← e1]
    refine ⟨e1.symm, by unfold maxLen at hm; omega, fun hn => ⟨x, rfl, fun j p hj => ⟨[.int .i64 p], rfl, rfl, fun i u hu => ?_⟩⟩⟩
    match i, hu with
    | 0, hu =>
      obtain ⟨hl1, hp⟩ := List.getElem?_eq_some_iff.1 hj
      have hjl : j < zs.length := by rw [List.length_take] at hl1; omega
      have h2 := hcell j hjl
      rw [List.getElem_take] at hp
      simp at hu
      subst hu
      simpa [List.getD_eq_getElem?_getD, hjl, hp, Kd.int, Kd.scalar] using h2
    | i + 1, hu => simp at hu

theorem read_bytes {t e : TypeId} {a : Option Addr} {len cap : Nat} {d : DataW H} {ps : List MemPlace} {ts : List TypeId} {ds : List (DataW H)} {j : Nat}
    (hsz : (DataW.weightsEach P ts ds).all (· ≤ reachBytes) = true) (ht : ts[j]? = some t) (hd : ds[j]? = some d) (hu : P.underlying t = some (.slice e)) (he : P.underlying e = some (.int .u8)) (hc : P.cellsOf e = 1) (hB : P.bytesOf e = 1)
    (h : DataW.Trod enc P W base (fun _ => true) held t (.slice a len cap) d ps) :
    ∃ l : List Int, len = l.length ∧ (Kd.int .u8).C W a l.length l ∧ l.length ≤ cap ∧ l.length ≤ maxLen ∧ l.length * 1 ≤ 140737488351232 ∧ ∀ x ∈ l, (Lit.int .u8 x).wf = true := by
  obtain ⟨fuel, hf⟩ := h
  rcases open_ints hu he hc hf with ⟨hcs, _⟩ | ⟨x, l, c, zs, hcs, _, hl, hm, hz, hx, hcell, hwz⟩
  · simp [Value.cells] at hcs
    obtain ⟨rfl, rfl, rfl⟩ := hcs
    exact ⟨[], rfl, ⟨rfl, by simp, fun h => by simp at h⟩, by simp, by simp, by simp, by simp⟩
  · simp [Value.cells] at hcs
    obtain ⟨rfl, rfl, rfl⟩ := hcs
    obtain ⟨hx, _⟩ := Prod.mk.inj hx
    subst hx
    have z := sized_slice hsz ht hd hu
    rw [hB] at z
    simp only [if_true] at hz
    have h1 : (lits (H := H) .u8 (zs.take len)).length + (lits (H := H) .u8 (zs.drop len)).length = zs.length := by
      simp [lits]
      omega
    rw [h1] at z
    have e1 : len = (zs.take len).length := by rw [List.length_take]; omega
    have hz8 : zs.length * 1 ≤ 140737488351232 := z
    refine ⟨zs.take len, e1, ?_, by omega, by omega, by rw [← e1]; omega, fun y hy => hwz y (List.mem_of_mem_take hy)⟩
    rw [← e1]
    refine ⟨e1.symm, by unfold maxLen at hm; omega, fun hn => ⟨x, rfl, fun j p hj => ⟨[.int .u8 p], rfl, rfl, fun i u hu => ?_⟩⟩⟩
    match i, hu with
    | 0, hu =>
      obtain ⟨hl1, hp⟩ := List.getElem?_eq_some_iff.1 hj
      have hjl : j < zs.length := by rw [List.length_take] at hl1; omega
      have h2 := hcell j hjl
      rw [List.getElem_take] at hp
      simp at hu
      subst hu
      simpa [List.getD_eq_getElem?_getD, hjl, hp, Kd.int, Kd.scalar] using h2
    | i + 1, hu => simp at hu

theorem read_rows {t e q : TypeId} {a : Option Addr} {len cap : Nat} {d : DataW H} {ps : List MemPlace} {ts : List TypeId} {ds : List (DataW H)} {j : Nat}
    (hsz : (DataW.weightsEach P ts ds).all (· ≤ reachBytes) = true) (ht : ts[j]? = some t) (hd : ds[j]? = some d) (hu : P.underlying t = some (.slice e)) (he : P.underlying e = some (.slice q)) (hq : P.underlying q = some (.int .i64))
    (ce : P.cellsOf e = 1) (cq : P.cellsOf q = 1) (hB : P.bytesOf e = 24)
    (h : DataW.Trod enc P W base (fun _ => true) held t (.slice a len cap) d ps) :
    ∃ l : List (List Int), len = l.length ∧ (Kd.slice q (Kd.int .i64)).C W a l.length l ∧ l.length ≤ cap ∧ l.length ≤ maxLen ∧ l.length * 24 ≤ 140737488351232 ∧ ∀ x ∈ l, x.length ≤ maxLen ∧ ∀ y ∈ x, (Lit.int .i64 y).wf = true := by
  obtain ⟨fuel, hf⟩ := h
  rcases Go.Deep.open_int_rows hu he hq ce cq hf with ⟨hcs, _⟩ | ⟨x, l, c, A, L, C, Z, hcs, _, hl, hm, hx, hcell⟩
  · simp [Value.cells] at hcs
    obtain ⟨rfl, rfl, rfl⟩ := hcs
    exact ⟨[], rfl, ⟨rfl, by simp, fun h => by simp at h⟩, by simp, by simp, by simp, by simp⟩
  · simp [Value.cells] at hcs
    obtain ⟨rfl, rfl, rfl⟩ := hcs
    obtain ⟨hx, _⟩ := Prod.mk.inj hx
    subst hx
    have z := sized_slice hsz ht hd hu
    rw [hB] at z
    simp only [List.length_map, List.length_range] at z
    have z' : (len + (cap - len)) * 24 ≤ 140737488351232 := z
    have e1 : len = ((List.range len).map fun r => (Z r).take (L r)).length := by simp
    have hlen : ∀ r, r < cap → ((Z r).take (L r)).length = L r := by
      intro r hr
      have := hcell r hr
      rw [List.length_take, this.2.2.2.1]
      omega
    refine ⟨(List.range len).map fun r => (Z r).take (L r), e1, ?_, by omega, by omega, by omega, ?_⟩
    · rw [← e1]
      refine ⟨e1.symm, by unfold maxLen at hm; omega, fun hn => ⟨x, rfl, fun j p hj => ?_⟩⟩
      obtain ⟨hl1, hp⟩ := List.getElem?_eq_some_iff.1 hj
      simp only [List.length_map, List.length_range] at hl1
      simp only [List.getElem_map, List.getElem_range] at hp
      subst hp
      obtain ⟨g1, g2, g3, g4, g5, g6, g7⟩ := hcell j (by omega)
      refine ⟨[.slice (A j) (L j) (C j)], rfl, ⟨A j, C j, by rw [hlen j (by omega)], by rw [hlen j (by omega)]; exact g2, ?_⟩, fun i u hu => ?_⟩
      · rw [hlen j (by omega)]
        refine ⟨hlen j (by omega), by unfold maxLen at g3; omega, fun h0 => ?_⟩
        cases hA : A j with
        | none => have := g6 hA; omega
        | some a' =>
          refine ⟨a', rfl, fun i p hi => ⟨[.int .i64 p], rfl, rfl, fun i2 u hu => ?_⟩⟩
          match i2, hu with
          | 0, hu =>
            obtain ⟨hl2, hp⟩ := List.getElem?_eq_some_iff.1 hi
            rw [List.length_take] at hl2
            have h2 := (g7 a' hA).2 i (by omega)
            rw [List.getElem_take] at hp
            simp at hu
            subst hu
            simpa [List.getD_eq_getElem?_getD, show i < (Z j).length by omega, hp, Kd.int, Kd.scalar] using h2
          | i2 + 1, hu => simp at hu
      · match i, hu with
        | 0, hu =>
          simp at hu
          subst hu
          simpa [Kd.slice] using g1
        | i + 1, hu => simp at hu
    · intro y hy
      simp only [List.mem_map, List.mem_range] at hy
      obtain ⟨r, hr, rfl⟩ := hy
      obtain ⟨g1, g2, g3, g4, g5, g6, g7⟩ := hcell r (by omega)
      exact ⟨by rw [hlen r (by omega)]; omega, fun v hv => g5 v (List.mem_of_mem_take hv)⟩

def intAt : Value → Int
  | .int _ a => a
  | _ => 0
theorem read_pairs {t e : TypeId} {f0 f1 : Field} {a : Option Addr} {len cap : Nat} {d : DataW H} {ps : List MemPlace} {ts : List TypeId} {ds : List (DataW H)} {j : Nat}
    (hsz : (DataW.weightsEach P ts ds).all (· ≤ reachBytes) = true) (ht : ts[j]? = some t) (hd : ds[j]? = some d) (hu : P.underlying t = some (.slice e)) (he : P.underlying e = some (.struct #[f0, f1]))
    (ce : P.cellsOf e = 2) (o0 : f0.offset = 0) (o1 : f1.offset = 1) (c0 : P.cellsOf f0.type = 1) (c1 : P.cellsOf f1.type = 1) (u0 : P.underlying f0.type = some (.int .i64)) (u1 : P.underlying f1.type = some (.int .i64)) (hB : P.bytesOf e = 16)
    (h : DataW.Trod enc P W base (fun _ => true) held t (.slice a len cap) d ps) :
    ∃ l : List (Int × Int), len = l.length ∧ ReadsRow (fun (p : Int × Int) cs => cs = [.int .i64 p.1, .int .i64 p.2]) 2 W a l.length l ∧ l.length ≤ cap ∧ l.length ≤ maxLen ∧ l.length * 16 ≤ 140737488351232 ∧ ∀ x ∈ l, (Lit.int .i64 x.1).wf = true ∧ (Lit.int .i64 x.2).wf = true := by
  obtain ⟨fuel, hf⟩ := h
  rcases Go.Deep.open_slice_pairs hu he ce o0 o1 c0 c1 hf with ⟨hcs, _⟩ | ⟨x, l, c, m, n, V0, V1, D0, D1, P0, P1, hcs, _, hl, hm, hmm, hx, hcell⟩
  · simp [Value.cells] at hcs
    obtain ⟨rfl, rfl, rfl⟩ := hcs
    exact ⟨[], rfl, ⟨rfl, by simp, fun h => by simp at h⟩, by simp, by simp, by simp, by simp⟩
  · simp [Value.cells] at hcs
    obtain ⟨rfl, rfl, rfl⟩ := hcs
    simp only [if_true] at hmm
    subst hmm
    obtain ⟨hx, _⟩ := Prod.mk.inj hx
    subst hx
    have z := sized_slice hsz ht hd hu
    rw [hB] at z
    simp only [List.length_map, List.length_range] at z
    have z' : (len + (m - len)) * 16 ≤ 140737488351232 := z
    have hat : ∀ i, i < m → V0 i = .int .i64 (intAt (V0 i)) ∧ V1 i = .int .i64 (intAt (V1 i)) ∧ (Lit.int .i64 (intAt (V0 i))).wf = true ∧ (Lit.int .i64 (intAt (V1 i))).wf = true := by
      intro i hi
      obtain ⟨_, _, g0, g1⟩ := hcell i hi
      obtain ⟨a0, e0, _, w0⟩ := DataW.trod_int u0 g0
      obtain ⟨a1, e1, _, w1⟩ := DataW.trod_int u1 g1
      have e0' : V0 i = .int .i64 a0 := by simpa using e0
      have e1' : V1 i = .int .i64 a1 := by simpa using e1
      rw [e0', e1']
      exact ⟨rfl, rfl, w0, w1⟩
    have e1 : len = ((List.range len).map fun r => (intAt (V0 r), intAt (V1 r))).length := by simp
    refine ⟨(List.range len).map fun r => (intAt (V0 r), intAt (V1 r)), e1, ?_, by omega, by omega, by omega, ?_⟩
    · rw [← e1]
      refine ⟨e1.symm, by unfold maxLen at hm; omega, fun hn => ⟨x, rfl, fun j p hj => ?_⟩⟩
      obtain ⟨hl1, hp⟩ := List.getElem?_eq_some_iff.1 hj
      simp only [List.length_map, List.length_range] at hl1
      simp only [List.getElem_map, List.getElem_range] at hp
      subst hp
      obtain ⟨g0, g1, _, _⟩ := hcell j (by omega)
      obtain ⟨k0, k1, _, _⟩ := hat j (by omega)
      rw [k0] at g0
      rw [k1] at g1
      refine ⟨_, rfl, rfl, fun i u hu => ?_⟩
      match i, hu with
      | 0, hu =>
        simp at hu
        subst hu
        exact g0
      | 1, hu =>
        simp at hu
        subst hu
        exact g1
      | i + 2, hu => simp at hu
    · intro y hy
      simp only [List.mem_map, List.mem_range] at hy
      obtain ⟨r, hr, rfl⟩ := hy
      obtain ⟨_, _, k2, k3⟩ := hat r (by omega)
      exact ⟨k2, k3⟩
end
end Go.Proofs.YtihnhpohbpfkmaaW.XRow
