/- No arena has no cells; one of other sizes there is not: the walk of ArenaNone. -/
import Derived.Test.YtnnelmjlmjedhaaArena2
namespace Go.Proofs.Ytnnelmjlmjedhaa.walkArenaNone
open Go.RowKit Go.Proofs.Ytnnelmjlmjedhaa.PArenaNone Go.Proofs.YtnnelmjlmjedhaaW.PrintWords Go.Proofs.YtnnelmjlmjedhaaW.PrintLast Go.Proofs.YtnnelmjlmjedhaaW.PrintMore Go.Proofs.Ytnnelmjlmjedhaa.Open Go.Proofs.Ytnnelmjlmjedhaa.Aid Go.Proofs.Ytnnelmjlmjedhaa.Quiet Go.Proofs.Ytnnelmjlmjedhaa.Blk Go.Proofs.Ytnnelmjlmjedhaa.State Go.Proofs.Ytnnelmjlmjedhaa.Vals Go.Proofs.Ytnnelmjlmjedhaa.Arena
set_option linter.unusedVariables false
attribute [local go_sem] max2_int min2_int max_two min_two

set_option maxHeartbeats 2000000 in
theorem core_yes (n w1 : Int) (W : World) (hn : 1 ≤ n ∧ n ≤ 16384) :
    Calls Try.prog 4 #[.int .i64 n, .int .u64 w1] W fun e W' => e = .returned (.bool true) ∧ Below W.heap.size W W' := by
  have d1 : decide (1 ≤ n) = true := decide_eq_true (by omega)
  have d2 : decide (n ≤ 16384) = true := decide_eq_true (by omega)
  obtain ⟨m, rfl⟩ := Int.eq_ofNat_of_zero_le (show 0 ≤ n by omega)
  have HNEW := Aside0.mk (fun w => show Calls Try.prog 15 #[.int .i64 (m : Int)] w fun r w' => (∃ g, r = .returned (.pointer (some ⟨g, 0, none⟩))) ∧ Below w.heap.size w w' from (new_some m w (by omega)).mono fun _ _ ⟨g, gc, hr, hA⟩ => ⟨⟨g, hr⟩, hA.below⟩)
  clear hn
  go_enter Try.func4, Try.ntmps4
  go_wp2_with (first
    | (go_at_call 20; with_reducible refine (write_nil _ _ _).mono ?_; rintro e wn ⟨rfl, nn, rfl⟩)
    | (go_at_call 18; with_reducible refine (begin_nil _).mono ?_; rintro e wn ⟨rfl, nn, rfl⟩)
    | (go_at_call 15; with_reducible refine (HNEW.out _).mono ?_; rintro e w2 ⟨⟨g, rfl⟩, hb2⟩; have HB := Aside0.mk hb2; clear hb2)
    | (go_at_call 24; with_reducible refine (awake_calls _).mono ?_; rintro e w3 ⟨rfl, hb3⟩; have HB3 := Aside0.mk hb3; clear hb3)
    | (go_at_call 16; with_reducible refine (read_nil _ _).mono ?_; rintro e wn ⟨rfl, nn, rfl⟩)
    | (go_at_call 17; with_reducible refine (swap_nil _ _ _ _).mono ?_; rintro e wn ⟨rfl, nn, rfl⟩)
    | (go_at_call 19; with_reducible refine (look_nil _ _).mono ?_; rintro e wn ⟨rfl, nn, rfl⟩)
    | (go_at_call 23; with_reducible refine (len_nil _).mono ?_; rintro e wn ⟨rfl, nn, rfl⟩)
    | (go_at_call 21; with_reducible refine (touched_nil _).mono ?_; rintro e wn ⟨rfl, nn, rfl⟩)
    | (go_at_call 22; with_reducible refine (stray_nil _).mono ?_; rintro e wn ⟨rfl, nn, rfl⟩))
  go_ret
  exact ⟨rfl, below_drewN (((below_drewN (Below.refl W.heap.size W) _).trans HB.out).trans (HB3.out.mono HB.out.size)) _⟩
set_option maxHeartbeats 2000000 in
theorem core_low (n w1 : Int) (W : World) (hn : n < 1) :
    Calls Try.prog 4 #[.int .i64 n, .int .u64 w1] W fun e W' => e = .returned (.bool true) ∧ Below W.heap.size W W' := by
  have d1 : decide (1 ≤ n) = false := decide_eq_false (by omega)
  have HNEW := Aside0.mk (fun w => new_none n w (by omega))
  clear hn
  go_enter Try.func4, Try.ntmps4
  go_wp2_with (first
    | (go_at_call 20; with_reducible refine (write_nil _ _ _).mono ?_; rintro e wn ⟨rfl, nn, rfl⟩)
    | (go_at_call 18; with_reducible refine (begin_nil _).mono ?_; rintro e wn ⟨rfl, nn, rfl⟩)
    | (go_at_call 15; with_reducible refine (HNEW.out _).mono ?_; rintro e w2 ⟨rfl, nn0, rfl⟩)
    | (go_at_call 24; with_reducible refine (awake_calls _).mono ?_; rintro e w3 ⟨rfl, hb3⟩; have HB3 := Aside0.mk hb3; clear hb3)
    | (go_at_call 16; with_reducible refine (read_nil _ _).mono ?_; rintro e wn ⟨rfl, nn, rfl⟩)
    | (go_at_call 17; with_reducible refine (swap_nil _ _ _ _).mono ?_; rintro e wn ⟨rfl, nn, rfl⟩)
    | (go_at_call 19; with_reducible refine (look_nil _ _).mono ?_; rintro e wn ⟨rfl, nn, rfl⟩)
    | (go_at_call 23; with_reducible refine (len_nil _).mono ?_; rintro e wn ⟨rfl, nn, rfl⟩)
    | (go_at_call 21; with_reducible refine (touched_nil _).mono ?_; rintro e wn ⟨rfl, nn, rfl⟩)
    | (go_at_call 22; with_reducible refine (stray_nil _).mono ?_; rintro e wn ⟨rfl, nn, rfl⟩))
  go_ret
  exact ⟨rfl, below_drewN ((below_drewN (Below.refl W.heap.size W) _).trans HB3.out) _⟩
set_option maxHeartbeats 2000000 in
theorem core_high (n w1 : Int) (W : World) (hn : 16384 < n) :
    Calls Try.prog 4 #[.int .i64 n, .int .u64 w1] W fun e W' => e = .returned (.bool true) ∧ Below W.heap.size W W' := by
  have d1 : decide (1 ≤ n) = true := decide_eq_true (by omega)
  have d2 : decide (n ≤ 16384) = false := decide_eq_false (by omega)
  have HNEW := Aside0.mk (fun w => new_none n w (by omega))
  clear hn
  go_enter Try.func4, Try.ntmps4
  go_wp2_with (first
    | (go_at_call 20; with_reducible refine (write_nil _ _ _).mono ?_; rintro e wn ⟨rfl, nn, rfl⟩)
    | (go_at_call 18; with_reducible refine (begin_nil _).mono ?_; rintro e wn ⟨rfl, nn, rfl⟩)
    | (go_at_call 15; with_reducible refine (HNEW.out _).mono ?_; rintro e w2 ⟨rfl, nn0, rfl⟩)
    | (go_at_call 24; with_reducible refine (awake_calls _).mono ?_; rintro e w3 ⟨rfl, hb3⟩; have HB3 := Aside0.mk hb3; clear hb3)
    | (go_at_call 16; with_reducible refine (read_nil _ _).mono ?_; rintro e wn ⟨rfl, nn, rfl⟩)
    | (go_at_call 17; with_reducible refine (swap_nil _ _ _ _).mono ?_; rintro e wn ⟨rfl, nn, rfl⟩)
    | (go_at_call 19; with_reducible refine (look_nil _ _).mono ?_; rintro e wn ⟨rfl, nn, rfl⟩)
    | (go_at_call 23; with_reducible refine (len_nil _).mono ?_; rintro e wn ⟨rfl, nn, rfl⟩)
    | (go_at_call 21; with_reducible refine (touched_nil _).mono ?_; rintro e wn ⟨rfl, nn, rfl⟩)
    | (go_at_call 22; with_reducible refine (stray_nil _).mono ?_; rintro e wn ⟨rfl, nn, rfl⟩))
  go_ret
  exact ⟨rfl, below_drewN ((below_drewN (Below.refl W.heap.size W) _).trans HB3.out) _⟩
theorem walk (a0 : Int) (a1 : Int) (W : World) (w0 : (Lit.int .i64 a0).wf = true) (w1 : (Lit.int .u64 a1).wf = true) :
    Calls Try.prog 4 #[.int .i64 a0, .int .u64 a1] W fun e W' => e = .returned (.bool true) ∧ Below W.heap.size W W' := by
  by_cases h1 : a0 < 1
  · exact core_low a0 a1 W h1
  · by_cases h2 : 16384 < a0
    · exact core_high a0 a1 W h2
    · exact core_yes a0 a1 W (by omega)
end Go.Proofs.Ytnnelmjlmjedhaa.walkArenaNone
