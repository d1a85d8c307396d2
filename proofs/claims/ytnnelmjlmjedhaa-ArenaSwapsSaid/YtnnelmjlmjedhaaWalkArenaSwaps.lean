/- Of many that swap a cell from one word to their own just one does: the walk of ArenaSwaps. -/
import Derived.Test.YtnnelmjlmjedhaaArena2
import Derived.Deep.LoopGhost
namespace Go.Proofs.Ytnnelmjlmjedhaa.walkArenaSwaps
open Go.RowKit Go.Proofs.Ytnnelmjlmjedhaa.PArenaNone Go.Proofs.YtnnelmjlmjedhaaW.PrintWords Go.Proofs.YtnnelmjlmjedhaaW.PrintLast Go.Proofs.YtnnelmjlmjedhaaW.PrintMore Go.Proofs.Ytnnelmjlmjedhaa.Open Go.Proofs.Ytnnelmjlmjedhaa.Aid Go.Proofs.Ytnnelmjlmjedhaa.Quiet Go.Proofs.Ytnnelmjlmjedhaa.Blk Go.Proofs.Ytnnelmjlmjedhaa.State Go.Proofs.Ytnnelmjlmjedhaa.Vals Go.Proofs.Ytnnelmjlmjedhaa.Arena
set_option linter.unusedVariables false
attribute [local go_sem] max2_int min2_int max_two min_two

set_option maxHeartbeats 4000000 in
set_option maxRecDepth 100000 in
theorem core (A0 : Option Addr) (l : List (Pts [.int .u64])) (c : Nat) (x : Int) (W : World) (hl : l.length ≤ 9223372036854775807) (ro : RowsOf W [.int .u64] A0 l) :
    Calls Try.prog 5 #[.slice A0 l.length c, .int .u64 x] W fun e W' => e = .returned (.bool true) ∧ Below W.heap.size W W' := by
  have HR := Aside0.mk ro
  clear ro
  go_enter Try.func5, Try.ntmps5
  go_wp2_with fail
  refine (new_some 1 W (by decide)).mono ?_
  rintro e w1 ⟨g, gc, rfl, hA⟩
  generalize w1.heap.size = B2 at hA
  have H1 := Aside0.mk (show Ar W B2 g gc 1 w1 (0 :: []) false from hA)
  clear hA
  go_wp2_with fail
  refine (write_at x H1.out).mono ?_
  rintro e w2 ⟨rfl, hA⟩
  have H2 := Aside0.mk hA
  clear hA H1
  go_wp2_with fail
  go_loopg [6, 7, 8] (min l.length 20) (fun gg won now i wx => ∃ (t : Nat) (y : Int), gg + t = min l.length 20 ∧ i = .int .i64 t ∧ now = .int .u64 y ∧ Ar W B2 g gc 1 wx [y] true ∧ ((won = .int .i64 0 ∧ y = x) ∨ (won = .int .i64 1 ∧ y ≠ x)))
  case atStart => exact ⟨0, x, rfl, rfl, rfl, H2.out, Or.inl ⟨rfl, rfl⟩⟩
  case round =>
    clear H2
    obtain ⟨t, y, ht, rfl, rfl, hA, hw⟩ := hrel
    have HA := Aside0.mk hA
    have HT := Aside0.mk ht
    clear hA ht
    by_cases hlt : t < l.length ∧ t < 20
    · obtain ⟨hlt, h20⟩ := hlt
      have d1 : decide ((t : Int) < (l.length : Int)) = true := decide_eq_true (by omega)
      have d2 : decide ((t : Int) < 20) = true := decide_eq_true (by omega)
      obtain ⟨a, rfl, hrow⟩ := HR.out t hlt
      have ca := hrow 0 (by decide)
      obtain ⟨v, hv⟩ : ∃ v, (l[t]).1 = v := ⟨_, rfl⟩
      have hw2 := (HA.out.below.cell (p := a.add (t * 1 + 0)) (World.block_lt_of_cell? _ _ ca)).trans ca
      have cw : wr.cell? (a.add t) = some (.int .u64 v) := by rw [← hv]; simpa [vals] using hw2
      clear hw2 ca hrow hv
      by_cases hvx : v = x
      · subst hvx
        have e1 : (v == v) = true := by simp
        rcases hw with ⟨rfl, hy⟩ | ⟨rfl, hy⟩
        all_goals
          have HY := Aside0.mk hy
          clear hy
          go_wp2_with fail
          go_roundg (min l.length 20 - (t + 1))
        all_goals first
          | (have := HT.out; omega)
          | exact ⟨t + 1, y, by have := HT.out; omega, by go_num, rfl, HA.out, Or.inl ⟨rfl, HY.out⟩⟩
          | exact ⟨t + 1, y, by have := HT.out; omega, by go_num, rfl, HA.out, Or.inr ⟨rfl, HY.out⟩⟩
      · have e1 : (v == x) = false := by rw [beq_eq_false_iff_ne]; exact hvx
        have HVX := Aside0.mk hvx
        clear hvx
        rcases hw with ⟨rfl, rfl⟩ | ⟨rfl, hy⟩
        · go_wp2_with fail
          refine (swap_yes v HA.out).mono ?_
          rintro e w3 ⟨rfl, hA⟩
          have HA3 := Aside0.mk hA
          clear hA
          go_wp2_with fail
          go_roundg (min l.length 20 - (t + 1))
          case measure => have := HT.out; omega
          case rel => exact ⟨t + 1, v, by have := HT.out; omega, by go_num, rfl, HA3.out, Or.inr ⟨rfl, HVX.out⟩⟩
        · have HY := Aside0.mk hy
          clear hy
          go_wp2_with fail
          refine (swap_no x v HA.out HY.out).mono ?_
          rintro e w3 ⟨rfl, hA⟩
          have HA3 := Aside0.mk hA
          clear hA
          go_wp2_with fail
          go_roundg (min l.length 20 - (t + 1))
          case measure => have := HT.out; omega
          case rel => exact ⟨t + 1, y, by have := HT.out; omega, by go_num, rfl, HA3.out, Or.inr ⟨rfl, HY.out⟩⟩
    · have HX := Aside0.mk (show (¬ t < l.length) ∨ (t < l.length ∧ ¬ t < 20) by omega)
      have HW := Aside0.mk hw
      clear hlt hw
      have fin : ∀ w', Below wr.heap.size wr w' → Ar W B2 g gc 1 w' [y] true := fun w' hb => HA.out.next hb
      have FIN := Aside0.mk fin
      clear fin
      rcases HX.out with h1 | ⟨h1, h2⟩
      · have d1 : decide ((t : Int) < (l.length : Int)) = false := decide_eq_false (by omega)
        rcases HW.out with ⟨rfl, hy⟩ | ⟨rfl, hy⟩
        all_goals
          clear hy
          go_wp2_with (first | (go_at_call 24; with_reducible refine (awake_calls _).mono ?_; rintro e w3 ⟨rfl, hb3⟩; have H3 := Aside0.mk (FIN.out _ hb3); clear hb3) | (go_at_call 16; with_reducible refine (read_at H3.out).mono ?_; rintro e w4 ⟨rfl, hA⟩; have H4 := Aside0.mk hA; clear hA) | (go_at_call 17; with_reducible refine (swap_yes y H4.out).mono ?_; rintro e w5 ⟨rfl, hA⟩; have H5 := Aside0.mk hA; clear hA))
          go_ret
          exact ⟨rfl, H5.out.below⟩
      · have d1 : decide ((t : Int) < (l.length : Int)) = true := decide_eq_true (by omega)
        have d2 : decide ((t : Int) < 20) = false := decide_eq_false (by omega)
        rcases HW.out with ⟨rfl, hy⟩ | ⟨rfl, hy⟩
        all_goals
          clear hy
          go_wp2_with (first | (go_at_call 24; with_reducible refine (awake_calls _).mono ?_; rintro e w3 ⟨rfl, hb3⟩; have H3 := Aside0.mk (FIN.out _ hb3); clear hb3) | (go_at_call 16; with_reducible refine (read_at H3.out).mono ?_; rintro e w4 ⟨rfl, hA⟩; have H4 := Aside0.mk hA; clear hA) | (go_at_call 17; with_reducible refine (swap_yes y H4.out).mono ?_; rintro e w5 ⟨rfl, hA⟩; have H5 := Aside0.mk hA; clear hA))
          go_ret
          exact ⟨rfl, H5.out.below⟩

theorem walk (A0 : Option Addr) (c0 : Nat) (l0 : List (Pts [.int .u64])) (a1 : Int) (W : World) (ro0 : RowsOf W [.int .u64] A0 l0) (w0 : ∀ x ∈ l0, wfs [.int .u64] x) (lc0 : l0.length ≤ c0) (cm0 : c0 ≤ maxLen) (nn0 : A0 = none → c0 = 0) (w1 : (Lit.int .u64 a1).wf = true) :
    Calls Try.prog 5 #[.slice A0 l0.length c0, .int .u64 a1] W fun e W' => e = .returned (.bool true) ∧ Below W.heap.size W W' :=
  core A0 l0 c0 a1 W (by unfold maxLen at cm0; omega) ro0
end Go.Proofs.Ytnnelmjlmjedhaa.walkArenaSwaps
