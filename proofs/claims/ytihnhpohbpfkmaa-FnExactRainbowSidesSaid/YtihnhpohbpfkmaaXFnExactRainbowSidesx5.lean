/- What functions of the program compute, as plain Lean functions, and that Go's calls come to just that: written by wip/tools/xprint.py for the law FnExactRainbowSides. -/
import Derived.Test.YtihnhpohbpfkmaaXFnExactRainbowSidesx0
import Derived.Test.YtihnhpohbpfkmaaXFnExactRainbowSidesx2
namespace Go.Proofs.Ytihnhpohbpfkmaa.XFnExactRainbowSides
open Go.RowKit Go.Proofs.YtihnhpohbpfkmaaW.PrintWords Go.Proofs.YtihnhpohbpfkmaaW.PrintLast Go.Proofs.YtihnhpohbpfkmaaW.PrintMore
attribute [local go_sem] max2_int min2_int max_two min_two max_three min_three max_four min_four   -- for this text's walks alone
set_option linter.unusedVariables false
set_option linter.unusedSimpArgs false

-- NOT PRINTED: function 108 (impl_Point_108)

-- NOT PRINTED: function 72 (impl_Point_72)

/-! ### impl_areColored: function 44 -/
theorem ac_rd (xs : List S25) (i : Nat) (hi : i < xs.length) : rd_T25 xs (i : Int) = xs[i] := by
  unfold rd_T25
  rw [List.getD_eq_getElem?_getD, Int.toNat_natCast, List.getElem?_eq_getElem hi]
  rfl
set_option maxHeartbeats 2000000 in
theorem ac_index (g : Nat) (lb : Array Value) (eg : ∀ args w, (callFunc g args).run Try.prog w = .ok (.enter g args) w) (bs : S25 → Bool) (A : Option Addr) (c : Nat) (xs : List S25) (w : World)
    (hr : Kd.C k25 w A xs.length xs) (hp : ∀ (W : World) (p : S25), Below w.heap.size w W → p ∈ xs → Calls Try.prog g (#[.agg #[.int .i64 p.f0, .int .i64 p.f1]] ++ lb) W fun e w' => e = .returned (.bool (bs p)) ∧ Below W.heap.size W w') :
    Calls Try.prog 108 #[.slice A xs.length c, .func (.func g) #[] lb] w fun e w' => (∃ r : Int, e = .returned (.int .i64 r) ∧ decide (0 ≤ r) = xs.any bs) ∧ Below w.heap.size w w' := by
  have hn : xs.length ≤ 9223372036854775807 := hr.2.1
  have HR := Aside0.mk hr
  have HP := Aside0.mk hp
  have HB := Aside0.mk (Below.refl w.heap.size w)
  have hu := Try.underlying25
  clear hr hp
  go_enter Try.func108, Try.ntmps108
  go_wp2
  go_loopg [5, 8] xs.length (fun gg _ s8 wr => ∃ kk : Nat, kk ≤ xs.length ∧ xs.length - kk ≤ gg ∧ s8 = .int .i64 kk ∧ Aside0 (Below w.heap.size w wr) ∧ Aside0 ((xs.drop kk).any bs = xs.any bs))
  case atStart => exact ⟨0, Nat.zero_le _, by omega, rfl, HB, ⟨rfl⟩⟩
  case round =>
    obtain ⟨kk, hkk, hg, rfl, HB, HA⟩ := hrel
    by_cases hlt : kk < xs.length
    · have hltz : (kk : Int) < (xs.length : Int) := by omega
      obtain ⟨ad, e1, hc0, hc1⟩ := at_T25 HR.out (kk : Int) (by omega) (by omega)
      subst e1
      simp only [Int.toNat_natCast] at hc0 hc1
      have hcell0 := (HB.out.cell (World.block_lt_of_cell? w _ hc0)).trans hc0
      have hcell1 := (HB.out.cell (World.block_lt_of_cell? w _ hc1)).trans hc1
      clear hc0 hc1
      have hmem : rd_T25 xs (kk : Int) ∈ xs := by
        rw [ac_rd xs kk hlt]
        exact List.getElem_mem hlt
      have HCALL := Aside0.mk (HP.out wr _ HB.out hmem)
      have hany : (xs.drop kk).any bs = (bs (rd_T25 xs (kk : Int)) || (xs.drop (kk + 1)).any bs) := by
        rw [List.drop_eq_getElem_cons hlt, List.any_cons, ac_rd xs kk hlt]
      have HN := Aside0.mk hany
      clear hmem hany
      generalize rd_T25 xs (kk : Int) = y at hcell0 hcell1 HCALL HN
      cases hq : bs y with
      | true =>
        have Q := Aside0.mk hq
        clear hq
        rw [Q.out] at HCALL
        go_wp2_with fail
        refine (HCALL.out).mono ?_
        rintro e w1 ⟨rfl, hb1⟩
        have HB1 := Aside0.mk (below_step HB.out hb1)
        clear hb1
        go_wp2
        go_ret
        exact ⟨⟨kk, rfl, by rw [← HA.out, HN.out, Q.out]; simp⟩, HB1.out⟩
      | false =>
        have Q := Aside0.mk hq
        clear hq
        rw [Q.out] at HCALL
        go_wp2_with fail
        refine (HCALL.out).mono ?_
        rintro e w1 ⟨rfl, hb1⟩
        have HB1 := Aside0.mk (below_step HB.out hb1)
        clear hb1
        go_wp2
        go_roundg (xs.length - (kk + 1))
        case measure => omega
        case rel =>
          refine ⟨kk + 1, by omega, by omega, by go_num, HB1, ⟨?_⟩⟩
          rw [← HA.out, HN.out, Q.out]
          rfl
    · have hltz : ¬ (kk : Int) < (xs.length : Int) := by omega
      have hk2 : kk = xs.length := by omega
      have HK := Aside0.mk hk2
      clear hk2
      go_wp2
      go_ret
      refine ⟨⟨-1, rfl, ?_⟩, HB.out⟩
      rw [← HA.out, HK.out, List.drop_length]
      rfl
set_option maxHeartbeats 1000000 in
theorem ac_contains (g : Nat) (lb : Array Value) (eg : ∀ args w, (callFunc g args).run Try.prog w = .ok (.enter g args) w) (bs : S25 → Bool) (A : Option Addr) (c : Nat) (xs : List S25) (w : World)
    (hr : Kd.C k25 w A xs.length xs) (hp : ∀ (W : World) (p : S25), Below w.heap.size w W → p ∈ xs → Calls Try.prog g (#[.agg #[.int .i64 p.f0, .int .i64 p.f1]] ++ lb) W fun e w' => e = .returned (.bool (bs p)) ∧ Below W.heap.size W w') :
    Calls Try.prog 72 #[.slice A xs.length c, .func (.func g) #[] lb] w fun e w' => e = .returned (.bool (xs.any bs)) ∧ Below w.heap.size w w' := by
  have HI := Aside0.mk (ac_index g lb eg bs A c xs w hr hp)
  clear hr hp
  go_enter Try.func72, Try.ntmps72
  go_wp2_with fail
  refine (HI.out).mono ?_
  rintro e w1 ⟨⟨r, rfl, hd⟩, hb⟩
  have HD := Aside0.mk hd
  have HB := Aside0.mk hb
  clear hd hb
  go_wp2
  go_ret
  exact ⟨by rw [← HD.out]; rfl, HB.out⟩
def acAll (on : S25 → Option Int) : List S25 → Option (List Int)
  | [] => some []
  | p :: ps => (on p).bind fun c => (acAll on ps).bind fun cs => some (c :: cs)
theorem acAll_mono {on on' : S25 → Option Int} (h : ∀ p, LeO (on p) (on' p)) : ∀ xs, LeO (acAll on xs) (acAll on' xs)
  | [] => LeO.refl _
  | p :: ps => LeO.bind (h p) (fun _ => LeO.bind (acAll_mono h ps) (fun _ => LeO.refl _))
theorem acAll_all {on : S25 → Option Int} : ∀ {xs : List S25} {cs : List Int}, acAll on xs = some cs → (∀ p ∈ xs, on p = some ((on p).getD 0)) ∧ (xs.any fun p => decide ((on p).getD 0 < 0)) = cs.any fun c => decide (c < 0)
  | [], cs, h => by
    obtain rfl := Option.some.inj h
    exact ⟨fun _ hp => absurd hp (by simp), rfl⟩
  | p :: ps, cs, h => by
    obtain ⟨c, hc, h⟩ := Option.bind_eq_some_iff.mp h
    obtain ⟨cs', hcs, h⟩ := Option.bind_eq_some_iff.mp h
    obtain rfl := Option.some.inj h
    obtain ⟨h1, h2⟩ := acAll_all hcs
    refine ⟨fun q hq => ?_, by simp [h2, hc]⟩
    rcases List.mem_cons.1 hq with rfl | hq
    · rw [hc]; rfl
    · exact h1 q hq
set_option maxHeartbeats 4000000 in
theorem ac_lit (k : Nat) (W : World) (b : Nat) (p : S25) (d x : Int) (hd : W.heap[b]? = some (.cells #[.int .i64 d] 3 (0, 0))) (h : impl_ColorOf.f k d p.f0 p.f1 = some x) :
    Calls Try.prog 73 (#[.agg #[.int .i64 p.f0, .int .i64 p.f1]] ++ #[.pointer (some ⟨b, 0, none⟩)]) W fun e w' => e = .returned (.bool (decide (x < 0))) ∧ Below W.heap.size W w' := by
  have hb1 := below_alloc (Below.refl W.heap.size W) (.cells #[.int .i64 p.f0, .int .i64 p.f1] 25)
  have hx : (W.alloc (.cells #[.int .i64 p.f0, .int .i64 p.f1] 25)).cell? ⟨b, 0, none⟩ = some (.int .i64 d) := by
    have : W.cell? ⟨b, 0, none⟩ = some (.int .i64 d) := by simp [World.cell?, hd]
    exact (hb1.cell (World.block_lt_of_cell? _ _ this)).trans this
  have HB := Aside0.mk hb1
  have HC := Aside0.mk h
  clear h hd hb1
  go_enter Try.func73, Try.ntmps73
  go_wp2_with (first | (go_at_call 9; refine (impl_ColorOf.calls k d p.f0 p.f1 x _ HC.out).mono ?_; rintro e w2 ⟨rfl, hb⟩; have HB2 := Aside0.mk (below_step HB.out hb); clear hb))
  go_ret
  exact ⟨rfl, HB2.out⟩
def impl_areColored.f (k : Nat) (a0 : Int) (l1 : List S25) : Option Bool := (acAll (fun p => impl_ColorOf.f k a0 p.f0 p.f1) l1).bind fun cs => some (!(cs.any fun c => decide (c < 0)))
theorem impl_areColored.mono : ∀ a0 l1 k, LeO (impl_areColored.f k a0 l1) (impl_areColored.f (k + 1) a0 l1) := by
  intro a0 l1 k
  unfold impl_areColored.f
  exact LeO.bind (acAll_mono (fun p => impl_ColorOf.mono _ _ _ k) l1) (fun _ => LeO.refl _)
set_option maxHeartbeats 4000000 in
theorem impl_areColored.calls (k : Nat) (a0 : Int) (A1 : Option Addr) (c1 : Nat) (l1 : List S25) (r : Bool) (w : World) (hr1 : Kd.C k25 w A1 l1.length l1) (hc1 : l1.length ≤ c1) (h : impl_areColored.f k a0 l1 = some r) :
    Calls Try.prog 44 #[.int .i64 a0, .slice A1 l1.length c1] w fun e w' => e = .returned (.bool r) ∧ Below w.heap.size w w' := by
  obtain ⟨cs, hcs, h2⟩ := Option.bind_eq_some_iff.mp h
  obtain rfl := Option.some.inj h2
  obtain ⟨h3, h4⟩ := acAll_all hcs
  have hb1 := below_alloc (Below.refl w.heap.size w) (.cells #[.int .i64 a0] 3)
  have hn1 : (w.alloc (.cells #[.int .i64 a0] 3)).heap[w.heap.size]? = some (.cells #[.int .i64 a0] 3 (0, 0)) := by
    show (w.heap.push _)[w.heap.size]? = _
    simp
  have HC := Aside0.mk (ac_contains 73 #[.pointer (some ⟨w.heap.size, 0, none⟩)] (enters_of Try.func73 (by kernel_rfl) rfl) (fun p => decide ((impl_ColorOf.f k a0 p.f0 p.f1).getD 0 < 0)) A1 c1 l1 (w.alloc (.cells #[.int .i64 a0] 3)) (Kd.C_below hr1 hb1)
    (fun W p hb hp => ac_lit k W w.heap.size p a0 _ ((hb.block _ (Array.getElem?_eq_some_iff.1 hn1).1).trans hn1) (h3 p hp)))
  rw [h4] at HC
  have HB := Aside0.mk hb1
  clear hr1 hc1 h h2 hcs h3 h4 hb1 hn1
  go_enter Try.func44, Try.ntmps44
  go_wp2_with fail
  refine (HC.out).mono ?_
  rintro e w1 ⟨rfl, hb⟩
  have HB2 := Aside0.mk (below_step HB.out hb)
  clear hb
  go_wp2
  go_ret
  exact ⟨rfl, HB2.out⟩

end Go.Proofs.Ytihnhpohbpfkmaa.XFnExactRainbowSides
