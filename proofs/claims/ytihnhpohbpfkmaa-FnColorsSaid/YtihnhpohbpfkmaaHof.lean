/- The library's IndexFunc and ContainsFunc at the program's element types: at whatever function value, given what it answers at each element. -/
import Derived.Test.YtihnhpohbpfkmaaProg
import Derived.Test.YtihnhpohbpfkmaaWWords
import Derived.Deep.LoopGhost
import Derived.Deep.Draws
import Derived.WalkKit
import Derived.Shelf.Abstract
namespace Go.Proofs.Ytihnhpohbpfkmaa.Hof
open Go.RowKit Go.Shelf Go.Proofs.YtihnhpohbpfkmaaW.PrintWords
set_option linter.unusedVariables false
set_option linter.unusedSimpArgs false

/-- In every world in which all that lay in w lies as it did, the function value g over lb answers bs[j] at vs[j]; it may make memory. -/
def Answers (g : Nat) (lb : Array Value) (vs : List Value) (bs : List Bool) (w : World) : Prop :=
  ∀ (W : World) (j : Nat), j < vs.length → Below w.heap.size w W → Calls Try.prog g (#[vs.getD j (.bool false)] ++ lb) W fun e w' => e = .returned (.bool (bs.getD j false)) ∧ Below W.heap.size W w'
/-- The slice reads as these values, one cell each. -/
def ReadsVals (w : World) (A : Option Addr) (vs : List Value) : Prop :=
  vs.length ≤ 9223372036854775807 ∧ (0 < vs.length → ∃ ad, A = some ad ∧ ∀ j, j < vs.length → w.cell? (ad.add j) = some (vs.getD j (.bool false)))
theorem any_of_hit {bs : List Bool} {k : Nat} (h : bs.getD k false = true) : bs.any id = true := by
  rw [List.any_eq_true]
  refine ⟨true, ?_, rfl⟩
  rw [List.getD_eq_getElem?_getD] at h
  by_cases hk : k < bs.length
  · rw [List.getElem?_eq_getElem hk] at h
    simp only [Option.getD_some] at h
    rw [← h]
    exact List.getElem_mem hk
  · rw [List.getElem?_eq_none (by omega)] at h
    simp at h
theorem any_of_miss {bs : List Bool} (h : ∀ j, j < bs.length → bs.getD j false = false) : bs.any id = false := by
  rw [List.any_eq_false]
  intro b hb hbt
  obtain ⟨j, hj, rfl⟩ := List.getElem_of_mem hb
  have := h j hj
  rw [List.getD_eq_getElem?_getD, List.getElem?_eq_getElem hj] at this
  simp only [Option.getD_some] at this
  simp [this] at hbt
theorem reads_int {w : World} {A : Option Addr} {l : List Int} (h : Kd.C (Kd.int .i64) w A l.length l) : ReadsVals w A (l.map (Value.int .i64)) := by
  refine ⟨by rw [List.length_map]; exact h.2.1, fun hn => ?_⟩
  rw [List.length_map] at hn
  obtain ⟨ad, rfl, hc⟩ := h.2.2 hn
  refine ⟨ad, rfl, fun j hj => ?_⟩
  rw [List.length_map] at hj
  obtain ⟨c, hl, hk, hcell⟩ := hc j l[j] (List.getElem?_eq_getElem hj)
  obtain rfl : c = [Value.int .i64 l[j]] := hk
  have := hcell 0 _ rfl
  simpa [Kd.int, Kd.scalar, List.getD_eq_getElem?_getD, hj] using this
theorem reads_rows {α : Type} {q : Nat} {d : Kd α} {w : World} {A : Option Addr} {l : List (List α)} (h : Kd.C (Kd.slice q d) w A l.length l) :
    ∃ vs : List Value, vs.length = l.length ∧ ReadsVals w A vs ∧ ∀ (j : Nat) (hj : j < l.length), ∃ A' c', vs.getD j (.bool false) = .slice A' (l[j]).length c' ∧ (l[j]).length ≤ c' ∧ Kd.C d w A' (l[j]).length l[j] := by
  rcases Nat.eq_zero_or_pos l.length with h0 | hp
  · refine ⟨[], by simp [h0], ⟨by simp, fun hn => by simp at hn⟩, fun j hj => by omega⟩
  · obtain ⟨ad, rfl, hc⟩ := h.2.2 hp
    have each : ∀ (j : Nat) (hj : j < l.length), ∃ A' c', w.cell? (ad.add j) = some (.slice A' (l[j]).length c') ∧ (l[j]).length ≤ c' ∧ Kd.C d w A' (l[j]).length l[j] := by
      intro j hj
      obtain ⟨c, hl, hk, hcell⟩ := hc j l[j] (List.getElem?_eq_getElem hj)
      obtain ⟨A', c', rfl, h1, h2⟩ := hk
      have := hcell 0 _ rfl
      exact ⟨A', c', by simpa [Kd.slice] using this, h1, h2⟩
    refine ⟨(List.range l.length).map fun j => (w.cell? (ad.add j)).getD (.bool false), by simp, ⟨by simp; exact h.2.1, fun _ => ⟨ad, rfl, fun j hj => ?_⟩⟩, fun j hj => ?_⟩
    · rw [List.length_map, List.length_range] at hj
      obtain ⟨A', c', h1, _⟩ := each j hj
      simp [List.getD_eq_getElem?_getD, hj, h1]
    · obtain ⟨A', c', h1, h2, h3⟩ := each j hj
      exact ⟨A', c', by simp [List.getD_eq_getElem?_getD, hj, h1], h2, h3⟩
set_option maxHeartbeats 2000000 in
theorem IndexFunc_row (g : Nat) (lb : Array Value) (eg : ∀ args w, (callFunc g args).run Try.prog w = .ok (.enter g args) w) (A : Option Addr) (c : Nat) (vs : List Value) (bs : List Bool) (w : World) (hl : bs.length = vs.length)
    (hr : ReadsVals w A vs) (hp : Answers g lb vs bs w) :
    Calls Try.prog 79 #[.slice A vs.length c, .func (.func g) #[] lb] w fun e w' => (∃ r : Int, e = .returned (.int .i64 r) ∧ decide (0 ≤ r) = bs.any id) ∧ Below w.heap.size w w' := by
  obtain ⟨hn, hr⟩ := hr
  have HR := Aside0.mk hr
  have HP := Aside0.mk hp
  have HL := Aside0.mk hl
  have HB := Aside0.mk (Below.refl w.heap.size w)
  clear hr hp hl
  go_enter Try.func79, Try.ntmps79
  go_wp2
  go_loopg [5, 8] vs.length (fun gg _ s8 wr => ∃ kk : Nat, kk ≤ vs.length ∧ vs.length - kk ≤ gg ∧ s8 = .int .i64 kk ∧ Aside0 (Below w.heap.size w wr) ∧ Aside0 (∀ j, j < kk → bs.getD j false = false))
  case atStart => exact ⟨0, Nat.zero_le _, by omega, rfl, HB, ⟨fun j hj => absurd hj (Nat.not_lt_zero _)⟩⟩
  case round =>
    obtain ⟨kk, hkk, hg, rfl, HB, HA⟩ := hrel
    by_cases hlt : kk < vs.length
    · have hltz : (kk : Int) < (vs.length : Int) := by omega
      obtain ⟨ad, rfl, hcs⟩ := HR.out (by omega)
      have hcell : wr.cell? (ad.add kk) = some (vs.getD kk (.bool false)) := (HB.out.cell (World.block_lt_of_cell? w _ (hcs kk hlt))).trans (hcs kk hlt)
      have HC := Aside0.mk hcs
      clear hcs
      have HCALL := Aside0.mk (HP.out wr kk hlt HB.out)
      generalize vs.getD kk (.bool false) = y at hcell HCALL
      cases hq : bs.getD kk false with
      | true =>
        have Q := Aside0.mk hq
        clear hq
        rw [Q.out] at HCALL
        go_wp2_with fail
        refine (HCALL.out).mono ?_
        rintro e w1 ⟨rfl, hb1⟩
        have HB1 := Aside0.mk (below_step HB.out hb1)
        clear hb1
        go_wp2
        go_ret
        exact ⟨⟨kk, rfl, by rw [any_of_hit Q.out]; simp⟩, HB1.out⟩
      | false =>
        have Q := Aside0.mk hq
        clear hq
        rw [Q.out] at HCALL
        go_wp2_with fail
        refine (HCALL.out).mono ?_
        rintro e w1 ⟨rfl, hb1⟩
        have HB1 := Aside0.mk (below_step HB.out hb1)
        clear hb1
        go_wp2
        go_roundg (vs.length - (kk + 1))
        case measure => omega
        case rel =>
          refine ⟨kk + 1, by omega, by omega, by go_num, HB1, ⟨fun j hj => ?_⟩⟩
          by_cases e : j = kk
          · subst e; exact Q.out
          · exact HA.out j (by omega)
    · have hltz : ¬ (kk : Int) < (vs.length : Int) := by omega
      have hk2 : kk = vs.length := by omega
      have HK := Aside0.mk hk2
      clear hk2
      go_wp2
      go_ret
      exact ⟨⟨-1, rfl, by rw [any_of_miss (fun j hj => HA.out j (by rw [HK.out, ← HL.out]; exact hj))]; rfl⟩, HB.out⟩
set_option maxHeartbeats 1000000 in
theorem ContainsFunc_row (g : Nat) (lb : Array Value) (eg : ∀ args w, (callFunc g args).run Try.prog w = .ok (.enter g args) w) (A : Option Addr) (c : Nat) (vs : List Value) (bs : List Bool) (w : World) (hl : bs.length = vs.length)
    (hr : ReadsVals w A vs) (hp : Answers g lb vs bs w) :
    Calls Try.prog 49 #[.slice A vs.length c, .func (.func g) #[] lb] w fun e w' => e = .returned (.bool (bs.any id)) ∧ Below w.heap.size w w' := by
  have HI := Aside0.mk (IndexFunc_row g lb eg A c vs bs w hl hr hp)
  clear hr hp hl
  go_enter Try.func49, Try.ntmps49
  go_wp2_with fail
  refine (HI.out).mono ?_
  rintro e w1 ⟨⟨r, rfl, hd⟩, hb⟩
  have HD := Aside0.mk hd
  have HB := Aside0.mk hb
  clear hd hb
  go_wp2
  go_ret
  exact ⟨by rw [← HD.out]; rfl, HB.out⟩
end Go.Proofs.Ytihnhpohbpfkmaa.Hof
