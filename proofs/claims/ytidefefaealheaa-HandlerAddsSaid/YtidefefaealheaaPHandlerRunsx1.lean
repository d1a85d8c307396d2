-- PRINTED BY print.sh 35421559b90ae4d0a3588c463048766b98c2df88dd9212a6774a882060cdf62d: not written by this session
import Derived.Test.YtidefefaealheaaPHandlerRunsx0
namespace Go.Proofs.Ytidefefaealheaa.PHandlerRuns
open Go.RowKit Go.Proofs.YtidefefaealheaaW.PrintWords Go.Proofs.YtidefefaealheaaW.PrintLast Go.Proofs.YtidefefaealheaaW.PrintMore
attribute [local go_sem] max2_int min2_int max_two min_two max_three min_three max_four min_four   -- for this text's walks alone
set_option linter.unusedVariables false
set_option linter.unusedSimpArgs false

/-! ### handler_Chunk: function 37 -/
def handler_Chunk.l0 : Nat → Int → Int → Int → Option (Int)
  | 0, _, _, _ => none
  | k + 1, x1, x7, x8 => if x8 > 0 then (if (Go.bits .and .u64 x8 1) = 1 then (handler_Chunk.l0 k ((x1 * x1) % 4294967296) ((x7 * x1) % 4294967296) (x8 / 2)) else (handler_Chunk.l0 k ((x1 * x1) % 4294967296) x7 (x8 / 2))) else (some x7)
def handler_Chunk.f (k : Nat) (a0 : Int) (a1 : Int) (a2 : Int) : Option (Int) := if a2 < 0 then (some 0) else (if a0 = 4 then (some ((a1 + ((a2) % 4294967296)) % 4294967296)) else (if a0 = 5 then (handler_Chunk.l0 k a1 1 (IntKind.u64.wrap (a2))) else (some 0)))
theorem handler_Chunk.mono_l : ∀ k, (∀ y0 y1 y2, LeO (handler_Chunk.l0 k y0 y1 y2) (handler_Chunk.l0 (k + 1) y0 y1 y2))
  | 0 => fun _ _ _ r h => by simp [handler_Chunk.l0] at h
  | k + 1 => by
    have ih0 := handler_Chunk.mono_l k
    · intro y0 y1 y2
      unfold handler_Chunk.l0
      repeat' first
      | (with_reducible exact ih0 _ _ _)
      | (with_reducible exact LeO.refl _)
      | (with_reducible exact LeO.none _)
      | (with_reducible refine LeO.ite ?_ ?_)
      | (with_reducible refine LeO.bind ?_ (fun _ => ?_))
      | exact ih0 _ _ _
      | exact LeO.none _
      | refine LeO.ite ?_ ?_
      | refine LeO.bind ?_ (fun _ => ?_)
theorem handler_Chunk.mono : ∀ a0 a1 a2 k, LeO (handler_Chunk.f k a0 a1 a2) (handler_Chunk.f (k + 1) a0 a1 a2) := by
  intro a0 a1 a2 k
  have ih0 := handler_Chunk.mono_l k
  unfold handler_Chunk.f
  repeat' first
      | (with_reducible exact ih0 _ _ _)
      | (with_reducible exact LeO.refl _)
      | (with_reducible exact LeO.none _)
      | (with_reducible refine LeO.ite ?_ ?_)
      | (with_reducible refine LeO.bind ?_ (fun _ => ?_))
      | exact ih0 _ _ _
      | exact LeO.none _
      | refine LeO.ite ?_ ?_
      | refine LeO.bind ?_ (fun _ => ?_)
set_option maxHeartbeats 8000000 in
set_option maxRecDepth 100000 in
theorem handler_Chunk.calls (k : Nat) (a0 : Int) (a1 : Int) (a2 : Int) (r : Int) (w : World) (h : handler_Chunk.f k a0 a1 a2 = some r) :
    Calls Try.prog 37 #[.int .i64 a0, .int .u32 a1, .int .i64 a2] w fun e w' => e = .returned (.int .u32 r) ∧ Drawn0 w w' := by
  have H : (if a2 < 0 then (some 0) else (if a0 = 4 then (some ((a1 + ((a2) % 4294967296)) % 4294967296)) else (if a0 = 5 then (handler_Chunk.l0 k a1 1 (IntKind.u64.wrap (a2))) else (some 0)))) = some r := h
  clear h
  by_cases c4 : a2 < 0
  · rw [if_pos c4] at H
    have c4b0 : decide (a2 < 0) = true := decide_eq_true c4
    clear c4
    obtain rfl := Option.some.inj H
    go_enter Try.func37, Try.ntmps37
    go_wp2
    go_ret
    exact ⟨by first | rfl | (simp; done) | (simp [*]; done), by repeat (first | exact Drawn0.refl _ | apply Drawn0.step)⟩
  · rw [if_neg c4] at H
    have c4b0 : decide (a2 < 0) = false := decide_eq_false c4
    clear c4
    by_cases c5 : a0 = 4
    · rw [if_pos c5] at H
      have c5b0 : (a0 == 4) = true := beq_iff_eq.mpr c5
      have c5b1 : (a0 != 4) = false := bne_eq_false_iff_eq.mpr c5
      clear c5
      obtain rfl := Option.some.inj H
      go_enter Try.func37, Try.ntmps37
      go_wp2
      go_ret
      exact ⟨by first | rfl | (simp; done) | (simp [*]; done), by repeat (first | exact Drawn0.refl _ | apply Drawn0.step)⟩
    · rw [if_neg c5] at H
      have c5b0 : (a0 == 4) = false := beq_eq_false_iff_ne.mpr c5
      have c5b1 : (a0 != 4) = true := bne_iff_ne.mpr c5
      by_cases c6 : a0 = 5
      · rw [if_pos c6] at H
        have c6b0 : (a0 == 5) = true := beq_iff_eq.mpr c6
        have c6b1 : (a0 != 5) = false := bne_eq_false_iff_eq.mpr c6
        clear c6
        have H' := Aside0.mk H
        clear H
        go_enter Try.func37, Try.ntmps37
        go_wp2
        go_loopg [1, 7, 8] k (fun kq v1 v7 v8 w' => ∃ (x1_1 : Int) (x7_1 : Int) (x8_1 : Int), v1 = .int .u32 x1_1 ∧ v7 = .int .u32 x7_1 ∧ v8 = .int .u64 x8_1 ∧ Aside0 (handler_Chunk.l0 kq x1_1 x7_1 x8_1 = some r) ∧ Aside0 (kq ≤ k) ∧ Drawn0 w w')
        case atStart => exact ⟨(a1), (1), (IntKind.u64.wrap (a2)), (by first | rfl | (simp; done) | (simp [*]; done)), (by first | rfl | (simp; done) | (simp [*]; done)), (by first | rfl | (simp; done) | (simp [*]; done)), H', ⟨Nat.le_refl _⟩, by repeat (first | exact Drawn0.refl _ | apply Drawn0.step)⟩
        case round =>
          clear H'
          try clear p2
          try clear c3
          try clear c4
          try clear c4b0
          try clear c5
          try clear c5b0
          try clear c5b1
          try clear c6
          try clear c6b0
          try clear c6b1
          obtain ⟨x1_1, x7_1, x8_1, rfl, rfl, rfl, HA, HK1, ⟨m1, rfl⟩⟩ := hrel
          cases gk with
          | zero => exact absurd HA.out (by simp [handler_Chunk.l0])
          | succ k1 =>
            have H := HA.out
            clear HA
            simp only [handler_Chunk.l0] at H
            by_cases c7 : x8_1 > 0
            · rw [if_pos c7] at H
              have c7b0 : decide (0 < x8_1) = true := decide_eq_true c7
              clear c7
              by_cases c8 : (Go.bits .and .u64 x8_1 1) = 1
              · rw [if_pos c8] at H
                have c8b0 : ((Go.bits .and .u64 x8_1 1) == 1) = true := beq_iff_eq.mpr c8
                have c8b1 : ((Go.bits .and .u64 x8_1 1) != 1) = false := bne_eq_false_iff_eq.mpr c8
                clear c8
                have H' := Aside0.mk H
                clear H
                go_wp2
                go_roundg k1
                case measure => have := HK1.out; omega
                case rel => exact ⟨((x1_1 * x1_1) % 4294967296), ((x7_1 * x1_1) % 4294967296), (x8_1 / 2), (by first | rfl | (simp; done) | (simp [*]; done)), (by first | rfl | (simp; done) | (simp [*]; done)), (by first | rfl | (simp; done) | (simp [*]; done)), H', ⟨by have := HK1.out; omega⟩, by repeat (first | exact Drawn0.refl _ | apply Drawn0.step)⟩
              · rw [if_neg c8] at H
                have c8b0 : ((Go.bits .and .u64 x8_1 1) == 1) = false := beq_eq_false_iff_ne.mpr c8
                have c8b1 : ((Go.bits .and .u64 x8_1 1) != 1) = true := bne_iff_ne.mpr c8
                have H' := Aside0.mk H
                clear H
                go_wp2
                go_roundg k1
                case measure => have := HK1.out; omega
                case rel => exact ⟨((x1_1 * x1_1) % 4294967296), (x7_1), (x8_1 / 2), (by first | rfl | (simp; done) | (simp [*]; done)), (by first | rfl | (simp; done) | (simp [*]; done)), (by first | rfl | (simp; done) | (simp [*]; done)), H', ⟨by have := HK1.out; omega⟩, by repeat (first | exact Drawn0.refl _ | apply Drawn0.step)⟩
            · rw [if_neg c7] at H
              have c7b0 : decide (0 < x8_1) = false := decide_eq_false c7
              clear c7
              obtain rfl := Option.some.inj H
              go_wp2
              go_ret
              exact ⟨by first | rfl | (simp; done) | (simp [*]; done), by repeat (first | exact Drawn0.refl _ | apply Drawn0.step)⟩
      · rw [if_neg c6] at H
        have c6b0 : (a0 == 5) = false := beq_eq_false_iff_ne.mpr c6
        have c6b1 : (a0 != 5) = true := bne_iff_ne.mpr c6
        obtain rfl := Option.some.inj H
        go_enter Try.func37, Try.ntmps37
        go_wp2
        go_ret
        exact ⟨by first | rfl | (simp; done) | (simp [*]; done), by repeat (first | exact Drawn0.refl _ | apply Drawn0.step)⟩

/-! ### handler_Run: function 39 -/
def handler_Run.f (a0 : Int) (a1 : Int) (a2 : Int) : Option (Int × Int × Bool) := if a0 = 0 then (some (a1, a2, true)) else (if a0 = 1 then (some ((a2 + a1) % 4294967296, (a2 + a1) % 4294967296, true)) else (if a0 = 2 then (some (a2, a2, true)) else (if a0 = 3 then (some ((2 * a1) % 4294967296, a2, true)) else (some (0, a2, false)))))
set_option maxHeartbeats 8000000 in
set_option maxRecDepth 100000 in
theorem handler_Run.calls (a0 : Int) (a1 : Int) (a2 : Int) (r1 : Int) (r2 : Int) (r3 : Bool) (w : World) (h : handler_Run.f a0 a1 a2 = some (r1, r2, r3)) :
    Calls Try.prog 39 #[.int .i64 a0, .int .u32 a1, .int .u32 a2] w fun e w' => e = .returned (.tuple #[.int .u32 r1, .int .u32 r2, .bool r3]) ∧ Drawn0 w w' := by
  have H : (if a0 = 0 then (some (a1, a2, true)) else (if a0 = 1 then (some ((a2 + a1) % 4294967296, (a2 + a1) % 4294967296, true)) else (if a0 = 2 then (some (a2, a2, true)) else (if a0 = 3 then (some ((2 * a1) % 4294967296, a2, true)) else (some (0, a2, false)))))) = some (r1, r2, r3) := h
  clear h
  by_cases c4 : a0 = 0
  · rw [if_pos c4] at H
    have c4b0 : (a0 == 0) = true := beq_iff_eq.mpr c4
    have c4b1 : (a0 != 0) = false := bne_eq_false_iff_eq.mpr c4
    clear c4
    simp only [Option.some.injEq, Prod.mk.injEq] at H
    obtain ⟨rfl, rfl, rfl⟩ := H
    go_enter Try.func39, Try.ntmps39
    go_wp2
    go_ret3
    exact ⟨by first | rfl | (simp; done) | (simp [*]; done), by repeat (first | exact Drawn0.refl _ | apply Drawn0.step)⟩
  · rw [if_neg c4] at H
    have c4b0 : (a0 == 0) = false := beq_eq_false_iff_ne.mpr c4
    have c4b1 : (a0 != 0) = true := bne_iff_ne.mpr c4
    by_cases c5 : a0 = 1
    · rw [if_pos c5] at H
      have c5b0 : (a0 == 1) = true := beq_iff_eq.mpr c5
      have c5b1 : (a0 != 1) = false := bne_eq_false_iff_eq.mpr c5
      clear c5
      simp only [Option.some.injEq, Prod.mk.injEq] at H
      obtain ⟨rfl, rfl, rfl⟩ := H
      go_enter Try.func39, Try.ntmps39
      go_wp2
      go_ret3
      exact ⟨by first | rfl | (simp; done) | (simp [*]; done), by repeat (first | exact Drawn0.refl _ | apply Drawn0.step)⟩
    · rw [if_neg c5] at H
      have c5b0 : (a0 == 1) = false := beq_eq_false_iff_ne.mpr c5
      have c5b1 : (a0 != 1) = true := bne_iff_ne.mpr c5
      by_cases c6 : a0 = 2
      · rw [if_pos c6] at H
        have c6b0 : (a0 == 2) = true := beq_iff_eq.mpr c6
        have c6b1 : (a0 != 2) = false := bne_eq_false_iff_eq.mpr c6
        clear c6
        simp only [Option.some.injEq, Prod.mk.injEq] at H
        obtain ⟨rfl, rfl, rfl⟩ := H
        go_enter Try.func39, Try.ntmps39
        go_wp2
        go_ret3
        exact ⟨by first | rfl | (simp; done) | (simp [*]; done), by repeat (first | exact Drawn0.refl _ | apply Drawn0.step)⟩
      · rw [if_neg c6] at H
        have c6b0 : (a0 == 2) = false := beq_eq_false_iff_ne.mpr c6
        have c6b1 : (a0 != 2) = true := bne_iff_ne.mpr c6
        by_cases c7 : a0 = 3
        · rw [if_pos c7] at H
          have c7b0 : (a0 == 3) = true := beq_iff_eq.mpr c7
          have c7b1 : (a0 != 3) = false := bne_eq_false_iff_eq.mpr c7
          clear c7
          simp only [Option.some.injEq, Prod.mk.injEq] at H
          obtain ⟨rfl, rfl, rfl⟩ := H
          go_enter Try.func39, Try.ntmps39
          go_wp2
          go_ret3
          exact ⟨by first | rfl | (simp; done) | (simp [*]; done), by repeat (first | exact Drawn0.refl _ | apply Drawn0.step)⟩
        · rw [if_neg c7] at H
          have c7b0 : (a0 == 3) = false := beq_eq_false_iff_ne.mpr c7
          have c7b1 : (a0 != 3) = true := bne_iff_ne.mpr c7
          simp only [Option.some.injEq, Prod.mk.injEq] at H
          obtain ⟨rfl, rfl, rfl⟩ := H
          go_enter Try.func39, Try.ntmps39
          go_wp2
          go_ret3
          exact ⟨by first | rfl | (simp; done) | (simp [*]; done), by repeat (first | exact Drawn0.refl _ | apply Drawn0.step)⟩

/-! ### handler_Known: function 40 -/
def handler_Known.f (a0 : Int) : Option (Bool) := if a0 ≥ 0 then (some (decide (a0 < 6))) else (some false)
set_option maxHeartbeats 8000000 in
set_option maxRecDepth 100000 in
theorem handler_Known.calls (a0 : Int) (r : Bool) (w : World) (h : handler_Known.f a0 = some r) :
    Calls Try.prog 40 #[.int .i64 a0] w fun e w' => e = .returned (.bool r) ∧ Drawn0 w w' := by
  have H : (if a0 ≥ 0 then (some (decide (a0 < 6))) else (some false)) = some r := h
  clear h
  by_cases c2 : a0 ≥ 0
  · rw [if_pos c2] at H
    have c2b0 : decide (0 ≤ a0) = true := decide_eq_true c2
    clear c2
    obtain rfl := Option.some.inj H
    go_enter Try.func40, Try.ntmps40
    go_wp2
    go_ret
    exact ⟨by first | rfl | (simp; done) | (simp [*]; done), by repeat (first | exact Drawn0.refl _ | apply Drawn0.step)⟩
  · rw [if_neg c2] at H
    have c2b0 : decide (0 ≤ a0) = false := decide_eq_false c2
    clear c2
    obtain rfl := Option.some.inj H
    go_enter Try.func40, Try.ntmps40
    go_wp2
    go_ret
    exact ⟨by first | rfl | (simp; done) | (simp [*]; done), by repeat (first | exact Drawn0.refl _ | apply Drawn0.step)⟩

/-! ### cablewaylaw25_awake: function 38 -/
def cablewaylaw25_awake.f (k : Nat)  : Option (Bool) := (handler_Run.f 1 3 4).bind fun bt101 => ((handler_Chunk.f k 5 3 2).bind fun t104 => (if t104 = 9 then (if bt101.1 = 7 then (if bt101.2.1 = 7 then (if bt101.2.2 = true then ((handler_Known.f 5).bind fun t105 => (if t105 = true then ((handler_Known.f 6).bind fun t106 => (some (!t106))) else (some false))) else (some false)) else (some false)) else (some false)) else (some false)))
theorem cablewaylaw25_awake.mono : ∀ k, LeO (cablewaylaw25_awake.f k ) (cablewaylaw25_awake.f (k + 1) ) := by
  intro  k
  unfold cablewaylaw25_awake.f
  repeat' first
      | (with_reducible exact handler_Chunk.mono _ _ _ _)
      | (with_reducible exact LeO.refl _)
      | (with_reducible exact LeO.none _)
      | (with_reducible refine LeO.ite ?_ ?_)
      | (with_reducible refine LeO.bind ?_ (fun _ => ?_))
      | exact handler_Chunk.mono _ _ _ _
      | exact LeO.none _
      | refine LeO.ite ?_ ?_
      | refine LeO.bind ?_ (fun _ => ?_)
set_option maxHeartbeats 8000000 in
set_option maxRecDepth 100000 in
theorem cablewaylaw25_awake.calls (k : Nat)  (r : Bool) (w : World) (h : cablewaylaw25_awake.f k  = some r) :
    Calls Try.prog 38 #[] w fun e w' => e = .returned (.bool r) ∧ Drawn0 w w' := by
  have H : ((handler_Run.f 1 3 4).bind fun bt101 => ((handler_Chunk.f k 5 3 2).bind fun t104 => (if t104 = 9 then (if bt101.1 = 7 then (if bt101.2.1 = 7 then (if bt101.2.2 = true then ((handler_Known.f 5).bind fun t105 => (if t105 = true then ((handler_Known.f 6).bind fun t106 => (some (!t106))) else (some false))) else (some false)) else (some false)) else (some false)) else (some false)))) = some r := h
  clear h
  replace H := Option.bind_eq_some_iff.mp H
  obtain ⟨⟨t101, t102, t103⟩, A10, H⟩ := H
  replace H : ((handler_Chunk.f k 5 3 2).bind fun t104 => (if t104 = 9 then (if t101 = 7 then (if t102 = 7 then (if t103 = true then ((handler_Known.f 5).bind fun t105 => (if t105 = true then ((handler_Known.f 6).bind fun t106 => (some (!t106))) else (some false))) else (some false)) else (some false)) else (some false)) else (some false))) = some r := H
  have A1 := Aside0.mk A10
  clear A10
  replace H := Option.bind_eq_some_iff.mp H
  obtain ⟨t104, A20, H⟩ := H
  replace H : (if t104 = 9 then (if t101 = 7 then (if t102 = 7 then (if t103 = true then ((handler_Known.f 5).bind fun t105 => (if t105 = true then ((handler_Known.f 6).bind fun t106 => (some (!t106))) else (some false))) else (some false)) else (some false)) else (some false)) else (some false)) = some r := H
  have A2 := Aside0.mk A20
  clear A20
  by_cases c3 : t104 = 9
  · rw [if_pos c3] at H
    have c3b0 : (t104 == 9) = true := beq_iff_eq.mpr c3
    have c3b1 : (t104 != 9) = false := bne_eq_false_iff_eq.mpr c3
    clear c3
    by_cases c4 : t101 = 7
    · rw [if_pos c4] at H
      have c4b0 : (t101 == 7) = true := beq_iff_eq.mpr c4
      have c4b1 : (t101 != 7) = false := bne_eq_false_iff_eq.mpr c4
      clear c4
      by_cases c5 : t102 = 7
      · rw [if_pos c5] at H
        have c5b0 : (t102 == 7) = true := beq_iff_eq.mpr c5
        have c5b1 : (t102 != 7) = false := bne_eq_false_iff_eq.mpr c5
        clear c5
        by_cases c6 : t103 = true
        · subst c6
          have H1 : ((handler_Known.f 5).bind fun t105 => (if t105 = true then ((handler_Known.f 6).bind fun t106 => (some (!t106))) else (some false))) = some r := by rw [if_pos rfl] at H; exact H
          clear H
          have H := H1
          clear H1
          replace H := Option.bind_eq_some_iff.mp H
          obtain ⟨t105, A70, H⟩ := H
          replace H : (if t105 = true then ((handler_Known.f 6).bind fun t106 => (some (!t106))) else (some false)) = some r := H
          have A7 := Aside0.mk A70
          clear A70
          by_cases c8 : t105 = true
          · subst c8
            have H1 : ((handler_Known.f 6).bind fun t106 => (some (!t106))) = some r := by rw [if_pos rfl] at H; exact H
            clear H
            have H := H1
            clear H1
            replace H := Option.bind_eq_some_iff.mp H
            obtain ⟨t106, A90, H⟩ := H
            replace H : (some (!t106)) = some r := H
            have A9 := Aside0.mk A90
            clear A90
            obtain rfl := Option.some.inj H
            go_enter Try.func38, Try.ntmps38
            go_wp2_with (first | ((with_reducible refine gate_callee (f := 39) rfl ?_); refine goesL_ (some 5) rfl rfl Try.func39 (by kernel_rfl) rfl #[.int .i64 1, .int .u32 3, .int .u32 4] rfl (by (try simp only [List.map_toArray, List.map_cons, List.map_nil]); first | done | rfl | (simp only [List.length_drop, List.length_take]; rfl)) ?_; (with_reducible refine (handler_Run.calls 1 3 4 t101 t102 true _ A1.out).mono ?_); rintro e w' ⟨rfl, ⟨nd, rfl⟩⟩; refine ⟨_, rfl, ?_⟩) | ((with_reducible refine gate_callee (f := 37) rfl ?_); refine goesL_ (some 9) rfl rfl Try.func37 (by kernel_rfl) rfl #[.int .i64 5, .int .u32 3, .int .i64 2] rfl (by (try simp only [List.map_toArray, List.map_cons, List.map_nil]); first | done | rfl | (simp only [List.length_drop, List.length_take]; rfl)) ?_; (with_reducible refine (handler_Chunk.calls k 5 3 2 t104 _ A2.out).mono ?_); rintro e w' ⟨rfl, ⟨nd, rfl⟩⟩; refine ⟨_, rfl, ?_⟩) | (go_at_call 40; (with_reducible refine (handler_Known.calls 5 true _ A7.out).mono ?_); rintro e w' ⟨rfl, ⟨nd, rfl⟩⟩) | (go_at_call 40; (with_reducible refine (handler_Known.calls 6 t106 _ A9.out).mono ?_); rintro e w' ⟨rfl, ⟨nd, rfl⟩⟩))
            go_ret
            exact ⟨by first | rfl | (simp; done) | (simp [*]; done), by repeat (first | exact Drawn0.refl _ | apply Drawn0.step)⟩
          · replace c8 := Bool.eq_false_iff.mpr c8
            subst c8
            have H1 : (some false) = some r := by rw [if_neg (show ¬ (false = true) by decide)] at H; exact H
            clear H
            have H := H1
            clear H1
            obtain rfl := Option.some.inj H
            go_enter Try.func38, Try.ntmps38
            go_wp2_with (first | ((with_reducible refine gate_callee (f := 39) rfl ?_); refine goesL_ (some 5) rfl rfl Try.func39 (by kernel_rfl) rfl #[.int .i64 1, .int .u32 3, .int .u32 4] rfl (by (try simp only [List.map_toArray, List.map_cons, List.map_nil]); first | done | rfl | (simp only [List.length_drop, List.length_take]; rfl)) ?_; (with_reducible refine (handler_Run.calls 1 3 4 t101 t102 true _ A1.out).mono ?_); rintro e w' ⟨rfl, ⟨nd, rfl⟩⟩; refine ⟨_, rfl, ?_⟩) | ((with_reducible refine gate_callee (f := 37) rfl ?_); refine goesL_ (some 9) rfl rfl Try.func37 (by kernel_rfl) rfl #[.int .i64 5, .int .u32 3, .int .i64 2] rfl (by (try simp only [List.map_toArray, List.map_cons, List.map_nil]); first | done | rfl | (simp only [List.length_drop, List.length_take]; rfl)) ?_; (with_reducible refine (handler_Chunk.calls k 5 3 2 t104 _ A2.out).mono ?_); rintro e w' ⟨rfl, ⟨nd, rfl⟩⟩; refine ⟨_, rfl, ?_⟩) | (go_at_call 40; (with_reducible refine (handler_Known.calls 5 false _ A7.out).mono ?_); rintro e w' ⟨rfl, ⟨nd, rfl⟩⟩))
            go_ret
            exact ⟨by first | rfl | (simp; done) | (simp [*]; done), by repeat (first | exact Drawn0.refl _ | apply Drawn0.step)⟩
        · replace c6 := Bool.eq_false_iff.mpr c6
          subst c6
          have H1 : (some false) = some r := by rw [if_neg (show ¬ (false = true) by decide)] at H; exact H
          clear H
          have H := H1
          clear H1
          obtain rfl := Option.some.inj H
          go_enter Try.func38, Try.ntmps38
          go_wp2_with (first | ((with_reducible refine gate_callee (f := 39) rfl ?_); refine goesL_ (some 5) rfl rfl Try.func39 (by kernel_rfl) rfl #[.int .i64 1, .int .u32 3, .int .u32 4] rfl (by (try simp only [List.map_toArray, List.map_cons, List.map_nil]); first | done | rfl | (simp only [List.length_drop, List.length_take]; rfl)) ?_; (with_reducible refine (handler_Run.calls 1 3 4 t101 t102 false _ A1.out).mono ?_); rintro e w' ⟨rfl, ⟨nd, rfl⟩⟩; refine ⟨_, rfl, ?_⟩) | ((with_reducible refine gate_callee (f := 37) rfl ?_); refine goesL_ (some 9) rfl rfl Try.func37 (by kernel_rfl) rfl #[.int .i64 5, .int .u32 3, .int .i64 2] rfl (by (try simp only [List.map_toArray, List.map_cons, List.map_nil]); first | done | rfl | (simp only [List.length_drop, List.length_take]; rfl)) ?_; (with_reducible refine (handler_Chunk.calls k 5 3 2 t104 _ A2.out).mono ?_); rintro e w' ⟨rfl, ⟨nd, rfl⟩⟩; refine ⟨_, rfl, ?_⟩))
          go_ret
          exact ⟨by first | rfl | (simp; done) | (simp [*]; done), by repeat (first | exact Drawn0.refl _ | apply Drawn0.step)⟩
      · rw [if_neg c5] at H
        have c5b0 : (t102 == 7) = false := beq_eq_false_iff_ne.mpr c5
        have c5b1 : (t102 != 7) = true := bne_iff_ne.mpr c5
        obtain rfl := Option.some.inj H
        go_enter Try.func38, Try.ntmps38
        go_wp2_with (first | ((with_reducible refine gate_callee (f := 39) rfl ?_); refine goesL_ (some 5) rfl rfl Try.func39 (by kernel_rfl) rfl #[.int .i64 1, .int .u32 3, .int .u32 4] rfl (by (try simp only [List.map_toArray, List.map_cons, List.map_nil]); first | done | rfl | (simp only [List.length_drop, List.length_take]; rfl)) ?_; (with_reducible refine (handler_Run.calls 1 3 4 t101 t102 t103 _ A1.out).mono ?_); rintro e w' ⟨rfl, ⟨nd, rfl⟩⟩; refine ⟨_, rfl, ?_⟩) | ((with_reducible refine gate_callee (f := 37) rfl ?_); refine goesL_ (some 9) rfl rfl Try.func37 (by kernel_rfl) rfl #[.int .i64 5, .int .u32 3, .int .i64 2] rfl (by (try simp only [List.map_toArray, List.map_cons, List.map_nil]); first | done | rfl | (simp only [List.length_drop, List.length_take]; rfl)) ?_; (with_reducible refine (handler_Chunk.calls k 5 3 2 t104 _ A2.out).mono ?_); rintro e w' ⟨rfl, ⟨nd, rfl⟩⟩; refine ⟨_, rfl, ?_⟩))
        go_ret
        exact ⟨by first | rfl | (simp; done) | (simp [*]; done), by repeat (first | exact Drawn0.refl _ | apply Drawn0.step)⟩
    · rw [if_neg c4] at H
      have c4b0 : (t101 == 7) = false := beq_eq_false_iff_ne.mpr c4
      have c4b1 : (t101 != 7) = true := bne_iff_ne.mpr c4
      obtain rfl := Option.some.inj H
      go_enter Try.func38, Try.ntmps38
      go_wp2_with (first | ((with_reducible refine gate_callee (f := 39) rfl ?_); refine goesL_ (some 5) rfl rfl Try.func39 (by kernel_rfl) rfl #[.int .i64 1, .int .u32 3, .int .u32 4] rfl (by (try simp only [List.map_toArray, List.map_cons, List.map_nil]); first | done | rfl | (simp only [List.length_drop, List.length_take]; rfl)) ?_; (with_reducible refine (handler_Run.calls 1 3 4 t101 t102 t103 _ A1.out).mono ?_); rintro e w' ⟨rfl, ⟨nd, rfl⟩⟩; refine ⟨_, rfl, ?_⟩) | ((with_reducible refine gate_callee (f := 37) rfl ?_); refine goesL_ (some 9) rfl rfl Try.func37 (by kernel_rfl) rfl #[.int .i64 5, .int .u32 3, .int .i64 2] rfl (by (try simp only [List.map_toArray, List.map_cons, List.map_nil]); first | done | rfl | (simp only [List.length_drop, List.length_take]; rfl)) ?_; (with_reducible refine (handler_Chunk.calls k 5 3 2 t104 _ A2.out).mono ?_); rintro e w' ⟨rfl, ⟨nd, rfl⟩⟩; refine ⟨_, rfl, ?_⟩))
      go_ret
      exact ⟨by first | rfl | (simp; done) | (simp [*]; done), by repeat (first | exact Drawn0.refl _ | apply Drawn0.step)⟩
  · rw [if_neg c3] at H
    have c3b0 : (t104 == 9) = false := beq_eq_false_iff_ne.mpr c3
    have c3b1 : (t104 != 9) = true := bne_iff_ne.mpr c3
    obtain rfl := Option.some.inj H
    go_enter Try.func38, Try.ntmps38
    go_wp2_with (first | ((with_reducible refine gate_callee (f := 39) rfl ?_); refine goesL_ (some 5) rfl rfl Try.func39 (by kernel_rfl) rfl #[.int .i64 1, .int .u32 3, .int .u32 4] rfl (by (try simp only [List.map_toArray, List.map_cons, List.map_nil]); first | done | rfl | (simp only [List.length_drop, List.length_take]; rfl)) ?_; (with_reducible refine (handler_Run.calls 1 3 4 t101 t102 t103 _ A1.out).mono ?_); rintro e w' ⟨rfl, ⟨nd, rfl⟩⟩; refine ⟨_, rfl, ?_⟩) | ((with_reducible refine gate_callee (f := 37) rfl ?_); refine goesL_ (some 9) rfl rfl Try.func37 (by kernel_rfl) rfl #[.int .i64 5, .int .u32 3, .int .i64 2] rfl (by (try simp only [List.map_toArray, List.map_cons, List.map_nil]); first | done | rfl | (simp only [List.length_drop, List.length_take]; rfl)) ?_; (with_reducible refine (handler_Chunk.calls k 5 3 2 t104 _ A2.out).mono ?_); rintro e w' ⟨rfl, ⟨nd, rfl⟩⟩; refine ⟨_, rfl, ?_⟩))
    go_ret
    exact ⟨by first | rfl | (simp; done) | (simp [*]; done), by repeat (first | exact Drawn0.refl _ | apply Drawn0.step)⟩

/-! ### handler_Streams: function 41 -/
def handler_Streams.f (a0 : Int) : Option (Bool) := if a0 = 4 then (some true) else (if a0 = 5 then (some true) else (some false))
set_option maxHeartbeats 8000000 in
set_option maxRecDepth 100000 in
theorem handler_Streams.calls (a0 : Int) (r : Bool) (w : World) (h : handler_Streams.f a0 = some r) :
    Calls Try.prog 41 #[.int .i64 a0] w fun e w' => e = .returned (.bool r) ∧ Drawn0 w w' := by
  have H : (if a0 = 4 then (some true) else (if a0 = 5 then (some true) else (some false))) = some r := h
  clear h
  by_cases c2 : a0 = 4
  · rw [if_pos c2] at H
    have c2b0 : (a0 == 4) = true := beq_iff_eq.mpr c2
    have c2b1 : (a0 != 4) = false := bne_eq_false_iff_eq.mpr c2
    clear c2
    obtain rfl := Option.some.inj H
    go_enter Try.func41, Try.ntmps41
    go_wp2
    go_ret
    exact ⟨by first | rfl | (simp; done) | (simp [*]; done), by repeat (first | exact Drawn0.refl _ | apply Drawn0.step)⟩
  · rw [if_neg c2] at H
    have c2b0 : (a0 == 4) = false := beq_eq_false_iff_ne.mpr c2
    have c2b1 : (a0 != 4) = true := bne_iff_ne.mpr c2
    by_cases c3 : a0 = 5
    · rw [if_pos c3] at H
      have c3b0 : (a0 == 5) = true := beq_iff_eq.mpr c3
      have c3b1 : (a0 != 5) = false := bne_eq_false_iff_eq.mpr c3
      clear c3
      obtain rfl := Option.some.inj H
      go_enter Try.func41, Try.ntmps41
      go_wp2
      go_ret
      exact ⟨by first | rfl | (simp; done) | (simp [*]; done), by repeat (first | exact Drawn0.refl _ | apply Drawn0.step)⟩
    · rw [if_neg c3] at H
      have c3b0 : (a0 == 5) = false := beq_eq_false_iff_ne.mpr c3
      have c3b1 : (a0 != 5) = true := bne_iff_ne.mpr c3
      obtain rfl := Option.some.inj H
      go_enter Try.func41, Try.ntmps41
      go_wp2
      go_ret
      exact ⟨by first | rfl | (simp; done) | (simp [*]; done), by repeat (first | exact Drawn0.refl _ | apply Drawn0.step)⟩

/-! ### handler_Changes: function 42 -/
def handler_Changes.f (a0 : Int) : Option (Bool) := some (a0 == 1)
set_option maxHeartbeats 8000000 in
set_option maxRecDepth 100000 in
theorem handler_Changes.calls (a0 : Int) (r : Bool) (w : World) (h : handler_Changes.f a0 = some r) :
    Calls Try.prog 42 #[.int .i64 a0] w fun e w' => e = .returned (.bool r) ∧ Drawn0 w w' := by
  have H : (some (a0 == 1)) = some r := h
  clear h
  obtain rfl := Option.some.inj H
  go_enter Try.func42, Try.ntmps42
  go_wp2
  go_ret
  exact ⟨by first | rfl | (simp; done) | (simp [*]; done), by repeat (first | exact Drawn0.refl _ | apply Drawn0.step)⟩

/-! ### cablewaylaw25_HandlerRuns: function 10 -/
mutual
def cablewaylaw25_HandlerRuns.j0 : Nat → Int → Int → Int → Option (Bool)
  | 0, _, _, _ => none
  | k + 1, x1, x2, x7 => (handler_Run.f x7 x1 x2).bind fun bt107 => (if x7 = 0 then (cablewaylaw25_HandlerRuns.j1 k x7 bt107.1 bt107.2.1 bt107.2.2 x1 x2 true) else (if x7 = 1 then (cablewaylaw25_HandlerRuns.j1 k x7 bt107.1 bt107.2.1 bt107.2.2 ((x1 + x2) % 4294967296) ((x1 + x2) % 4294967296) true) else (if x7 = 2 then (cablewaylaw25_HandlerRuns.j1 k x7 bt107.1 bt107.2.1 bt107.2.2 x2 x2 true) else (if x7 = 3 then (cablewaylaw25_HandlerRuns.j1 k x7 bt107.1 bt107.2.1 bt107.2.2 ((x1 + x1) % 4294967296) x2 true) else (cablewaylaw25_HandlerRuns.j1 k x7 bt107.1 bt107.2.1 bt107.2.2 0 x2 false)))))
def cablewaylaw25_HandlerRuns.j1 : Nat → Int → Int → Int → Bool → Int → Int → Bool → Option (Bool)
  | 0, _, _, _, _, _, _, _ => none
  | k + 1, x7, x8, x9, x10, x11, x12, x13 => (cablewaylaw25_awake.f k).bind fun t110 => (if t110 = true then (if x8 = x11 then (if x9 = x12 then (if (x10 == x13) = true then ((handler_Known.f x7).bind fun t111 => (if x7 ≥ 0 then (if (t111 == (decide (x7 ≤ 5))) = true then ((handler_Streams.f x7).bind fun t112 => (if x7 = 4 then (if (t112 == true) = true then ((handler_Changes.f x7).bind fun t113 => (some (t113 == (x7 == 1)))) else (some false)) else (if (t112 == (x7 == 5)) = true then ((handler_Changes.f x7).bind fun t114 => (some (t114 == (x7 == 1)))) else (some false)))) else (some false)) else (if (t111 == false) = true then ((handler_Streams.f x7).bind fun t115 => (if x7 = 4 then (if (t115 == true) = true then ((handler_Changes.f x7).bind fun t116 => (some (t116 == (x7 == 1)))) else (some false)) else (if (t115 == (x7 == 5)) = true then ((handler_Changes.f x7).bind fun t117 => (some (t117 == (x7 == 1)))) else (some false)))) else (some false)))) else (some false)) else (some false)) else (some false)) else (some false))
end
def cablewaylaw25_HandlerRuns.f (k : Nat) (a0 : Int) (a1 : Int) (a2 : Int) : Option (Bool) := if (Go.bits .and .i64 a0 16) > 0 then (cablewaylaw25_HandlerRuns.j0 k a1 a2 (Go.bits .and .i64 a0 7)) else (cablewaylaw25_HandlerRuns.j0 k a1 a2 a0)
theorem cablewaylaw25_HandlerRuns.mono_l : ∀ k, (∀ y0 y1 y2, LeO (cablewaylaw25_HandlerRuns.j0 k y0 y1 y2) (cablewaylaw25_HandlerRuns.j0 (k + 1) y0 y1 y2)) ∧ (∀ y0 y1 y2 y3 y4 y5 y6, LeO (cablewaylaw25_HandlerRuns.j1 k y0 y1 y2 y3 y4 y5 y6) (cablewaylaw25_HandlerRuns.j1 (k + 1) y0 y1 y2 y3 y4 y5 y6))
  | 0 => ⟨fun _ _ _ r h => by simp [cablewaylaw25_HandlerRuns.j0] at h, fun _ _ _ _ _ _ _ r h => by simp [cablewaylaw25_HandlerRuns.j1] at h⟩
  | k + 1 => by
    obtain ⟨ih0, ih1⟩ := cablewaylaw25_HandlerRuns.mono_l k
    refine ⟨?_, ?_⟩
    · intro y0 y1 y2
      unfold cablewaylaw25_HandlerRuns.j0
      repeat' first
      | (with_reducible exact ih0 _ _ _)
      | (with_reducible exact ih1 _ _ _ _ _ _ _)
      | (with_reducible exact cablewaylaw25_awake.mono _)
      | (with_reducible exact LeO.refl _)
      | (with_reducible exact LeO.none _)
      | (with_reducible refine LeO.ite ?_ ?_)
      | (with_reducible refine LeO.bind ?_ (fun _ => ?_))
      | exact ih0 _ _ _
      | exact ih1 _ _ _ _ _ _ _
      | exact cablewaylaw25_awake.mono _
      | exact LeO.none _
      | refine LeO.ite ?_ ?_
      | refine LeO.bind ?_ (fun _ => ?_)
    · intro y0 y1 y2 y3 y4 y5 y6
      unfold cablewaylaw25_HandlerRuns.j1
      repeat' first
      | (with_reducible exact ih0 _ _ _)
      | (with_reducible exact ih1 _ _ _ _ _ _ _)
      | (with_reducible exact cablewaylaw25_awake.mono _)
      | (with_reducible exact LeO.refl _)
      | (with_reducible exact LeO.none _)
      | (with_reducible refine LeO.ite ?_ ?_)
      | (with_reducible refine LeO.bind ?_ (fun _ => ?_))
      | exact ih0 _ _ _
      | exact ih1 _ _ _ _ _ _ _
      | exact cablewaylaw25_awake.mono _
      | exact LeO.none _
      | refine LeO.ite ?_ ?_
      | refine LeO.bind ?_ (fun _ => ?_)
theorem cablewaylaw25_HandlerRuns.mono : ∀ a0 a1 a2 k, LeO (cablewaylaw25_HandlerRuns.f k a0 a1 a2) (cablewaylaw25_HandlerRuns.f (k + 1) a0 a1 a2) := by
  intro a0 a1 a2 k
  obtain ⟨ih0, ih1⟩ := cablewaylaw25_HandlerRuns.mono_l k
  unfold cablewaylaw25_HandlerRuns.f
  repeat' first
      | (with_reducible exact ih0 _ _ _)
      | (with_reducible exact ih1 _ _ _ _ _ _ _)
      | (with_reducible exact cablewaylaw25_awake.mono _)
      | (with_reducible exact LeO.refl _)
      | (with_reducible exact LeO.none _)
      | (with_reducible refine LeO.ite ?_ ?_)
      | (with_reducible refine LeO.bind ?_ (fun _ => ?_))
      | exact ih0 _ _ _
      | exact ih1 _ _ _ _ _ _ _
      | exact cablewaylaw25_awake.mono _
      | exact LeO.none _
      | refine LeO.ite ?_ ?_
      | refine LeO.bind ?_ (fun _ => ?_)
set_option maxHeartbeats 8000000 in
set_option maxRecDepth 100000 in
theorem cablewaylaw25_HandlerRuns.calls (k : Nat) (a0 : Int) (a1 : Int) (a2 : Int) (r : Bool) (w : World) (h : cablewaylaw25_HandlerRuns.f k a0 a1 a2 = some r) :
    Calls Try.prog 10 #[.int .i64 a0, .int .u32 a1, .int .u32 a2] w fun e w' => e = .returned (.bool r) ∧ Drawn0 w w' := by
  have H : (if (Go.bits .and .i64 a0 16) > 0 then (cablewaylaw25_HandlerRuns.j0 k a1 a2 (Go.bits .and .i64 a0 7)) else (cablewaylaw25_HandlerRuns.j0 k a1 a2 a0)) = some r := h
  clear h
  have HC4 := Aside0.mk H
  clear H
  go_enter Try.func10, Try.ntmps10
  go_upto_if 17 with (fail)
  go_cut [7] (fun v7 wc => ∃ (kq : Nat) (x7_3 : Int), v7 = .int .i64 x7_3 ∧ Aside0 (cablewaylaw25_HandlerRuns.j0 kq a1 a2 x7_3 = some r) ∧ Aside0 (kq ≤ k) ∧ Drawn0 w wc)
  case first =>
    have H := HC4.out
    clear HC4
    by_cases c5 : (Go.bits .and .i64 a0 16) > 0
    · rw [if_pos c5] at H
      have c5b0 : decide (0 < (Go.bits .and .i64 a0 16)) = true := decide_eq_true c5
      clear c5
      (first | rw [c5b0] | (simp only [i64_w, i32_w]; rw [c5b0]) | skip)
      have H' := Aside0.mk H
      clear H
      go_wp2
      go_meet
      case rel => exact ⟨_, (Go.bits .and .i64 a0 7), (by first | rfl | (simp; done) | (simp [*]; done)), H', ⟨by first | omega | exact Nat.le_refl _⟩, by repeat (first | exact Drawn0.refl _ | apply Drawn0.step)⟩
    · rw [if_neg c5] at H
      have c5b0 : decide (0 < (Go.bits .and .i64 a0 16)) = false := decide_eq_false c5
      clear c5
      (first | rw [c5b0] | (simp only [i64_w, i32_w]; rw [c5b0]) | skip)
      have H' := Aside0.mk H
      clear H
      go_wp2
      go_meet
      case rel => exact ⟨_, (a0), (by first | rfl | (simp; done) | (simp [*]; done)), H', ⟨by first | omega | exact Nat.le_refl _⟩, by repeat (first | exact Drawn0.refl _ | apply Drawn0.step)⟩
  case rest =>
    clear HC4
    try clear c1
    try clear p2
    try clear c5
    try clear c5b0
    obtain ⟨kq, x7_3, rfl, HA, HJ3, ⟨mc3, rfl⟩⟩ := hcut
    cases kq with
    | zero => exact absurd HA.out (by simp [cablewaylaw25_HandlerRuns.j0])
    | succ kj3 =>
      have H := HA.out
      clear HA
      simp only [cablewaylaw25_HandlerRuns.j0] at H
      replace H := Option.bind_eq_some_iff.mp H
      obtain ⟨⟨t107, t108, t109⟩, A60, H⟩ := H
      replace H : (if x7_3 = 0 then (cablewaylaw25_HandlerRuns.j1 kj3 x7_3 t107 t108 t109 a1 a2 true) else (if x7_3 = 1 then (cablewaylaw25_HandlerRuns.j1 kj3 x7_3 t107 t108 t109 ((a1 + a2) % 4294967296) ((a1 + a2) % 4294967296) true) else (if x7_3 = 2 then (cablewaylaw25_HandlerRuns.j1 kj3 x7_3 t107 t108 t109 a2 a2 true) else (if x7_3 = 3 then (cablewaylaw25_HandlerRuns.j1 kj3 x7_3 t107 t108 t109 ((a1 + a1) % 4294967296) a2 true) else (cablewaylaw25_HandlerRuns.j1 kj3 x7_3 t107 t108 t109 0 a2 false))))) = some r := H
      have A6 := Aside0.mk A60
      clear A60
      have HC7 := Aside0.mk H
      clear H
      go_upto_block 0 with (first | ((with_reducible refine gate_callee (f := 39) rfl ?_); refine goesL_ (some 24) rfl rfl Try.func39 (by kernel_rfl) rfl #[.int .i64 x7_3, .int .u32 a1, .int .u32 a2] rfl (by (try simp only [List.map_toArray, List.map_cons, List.map_nil]); first | done | rfl | (simp only [List.length_drop, List.length_take]; rfl)) ?_; (with_reducible refine (handler_Run.calls x7_3 a1 a2 t107 t108 t109 _ A6.out).mono ?_); rintro e w' ⟨rfl, ⟨nd, rfl⟩⟩; refine ⟨_, rfl, ?_⟩))
      (try simp only [Act.put, List.setIfInBounds_toArray, List.set_cons_zero, List.set_cons_succ])
      go_cut [11, 12, 13] (fun v11 v12 v13 wc => ∃ (kq : Nat) (x11_6 : Int) (x12_6 : Int) (x13_6 : Bool), v11 = .int .u32 x11_6 ∧ v12 = .int .u32 x12_6 ∧ v13 = .bool x13_6 ∧ Aside0 (cablewaylaw25_HandlerRuns.j1 kq x7_3 t107 t108 t109 x11_6 x12_6 x13_6 = some r) ∧ Aside0 (kq ≤ kj3) ∧ Drawn0 w wc)
      case first =>
        have H := HC7.out
        clear HC7
        by_cases c8 : x7_3 = 0
        · rw [if_pos c8] at H
          have c8b0 : (x7_3 == 0) = true := beq_iff_eq.mpr c8
          have c8b1 : (x7_3 != 0) = false := bne_eq_false_iff_eq.mpr c8
          clear c8
          (first | rw [c8b0] | (simp only [i64_w, i32_w]; rw [c8b0]) | skip)
          have H' := Aside0.mk H
          clear H
          go_wp2
          go_meet
          case rel => exact ⟨_, (a1), (a2), (true), (by first | rfl | (simp; done) | (simp [*]; done)), (by first | rfl | (simp; done) | (simp [*]; done)), (by first | rfl | (simp; done) | (simp [*]; done)), H', ⟨by have := HJ3.out; first | omega | exact Nat.le_refl _⟩, by repeat (first | exact Drawn0.refl _ | apply Drawn0.step)⟩
        · rw [if_neg c8] at H
          have c8b0 : (x7_3 == 0) = false := beq_eq_false_iff_ne.mpr c8
          have c8b1 : (x7_3 != 0) = true := bne_iff_ne.mpr c8
          (first | rw [c8b0] | (simp only [i64_w, i32_w]; rw [c8b0]) | skip)
          by_cases c9 : x7_3 = 1
          · rw [if_pos c9] at H
            have c9b0 : (x7_3 == 1) = true := beq_iff_eq.mpr c9
            have c9b1 : (x7_3 != 1) = false := bne_eq_false_iff_eq.mpr c9
            clear c9
            have H' := Aside0.mk H
            clear H
            go_wp2
            go_meet
            case rel => exact ⟨_, ((a1 + a2) % 4294967296), ((a1 + a2) % 4294967296), (true), (by first | rfl | (simp; done) | (simp [*]; done)), (by first | rfl | (simp; done) | (simp [*]; done)), (by first | rfl | (simp; done) | (simp [*]; done)), H', ⟨by have := HJ3.out; first | omega | exact Nat.le_refl _⟩, by repeat (first | exact Drawn0.refl _ | apply Drawn0.step)⟩
          · rw [if_neg c9] at H
            have c9b0 : (x7_3 == 1) = false := beq_eq_false_iff_ne.mpr c9
            have c9b1 : (x7_3 != 1) = true := bne_iff_ne.mpr c9
            by_cases c10 : x7_3 = 2
            · rw [if_pos c10] at H
              have c10b0 : (x7_3 == 2) = true := beq_iff_eq.mpr c10
              have c10b1 : (x7_3 != 2) = false := bne_eq_false_iff_eq.mpr c10
              clear c10
              have H' := Aside0.mk H
              clear H
              go_wp2
              go_meet
              case rel => exact ⟨_, (a2), (a2), (true), (by first | rfl | (simp; done) | (simp [*]; done)), (by first | rfl | (simp; done) | (simp [*]; done)), (by first | rfl | (simp; done) | (simp [*]; done)), H', ⟨by have := HJ3.out; first | omega | exact Nat.le_refl _⟩, by repeat (first | exact Drawn0.refl _ | apply Drawn0.step)⟩
            · rw [if_neg c10] at H
              have c10b0 : (x7_3 == 2) = false := beq_eq_false_iff_ne.mpr c10
              have c10b1 : (x7_3 != 2) = true := bne_iff_ne.mpr c10
              by_cases c11 : x7_3 = 3
              · rw [if_pos c11] at H
                have c11b0 : (x7_3 == 3) = true := beq_iff_eq.mpr c11
                have c11b1 : (x7_3 != 3) = false := bne_eq_false_iff_eq.mpr c11
                clear c11
                have H' := Aside0.mk H
                clear H
                go_wp2
                go_meet
                case rel => exact ⟨_, ((a1 + a1) % 4294967296), (a2), (true), (by first | rfl | (simp; done) | (simp [*]; done)), (by first | rfl | (simp; done) | (simp [*]; done)), (by first | rfl | (simp; done) | (simp [*]; done)), H', ⟨by have := HJ3.out; first | omega | exact Nat.le_refl _⟩, by repeat (first | exact Drawn0.refl _ | apply Drawn0.step)⟩
              · rw [if_neg c11] at H
                have c11b0 : (x7_3 == 3) = false := beq_eq_false_iff_ne.mpr c11
                have c11b1 : (x7_3 != 3) = true := bne_iff_ne.mpr c11
                have H' := Aside0.mk H
                clear H
                go_wp2
                go_meet
                case rel => exact ⟨_, (0), (a2), (false), (by first | rfl | (simp; done) | (simp [*]; done)), (by first | rfl | (simp; done) | (simp [*]; done)), (by first | rfl | (simp; done) | (simp [*]; done)), H', ⟨by have := HJ3.out; first | omega | exact Nat.le_refl _⟩, by repeat (first | exact Drawn0.refl _ | apply Drawn0.step)⟩
      case rest =>
        clear HC7
        try clear c1
        try clear p2
        try clear c3
        try clear c5
        try clear c5b0
        try clear c8
        try clear c8b0
        try clear c8b1
        try clear c9
        try clear c9b0
        try clear c9b1
        try clear c10
        try clear c10b0
        try clear c10b1
        try clear c11
        try clear c11b0
        try clear c11b1
        try clear p2
        obtain ⟨kq, x11_6, x12_6, x13_6, rfl, rfl, rfl, HA, HJ6, ⟨mc6, rfl⟩⟩ := hcut
        cases kq with
        | zero => exact absurd HA.out (by simp [cablewaylaw25_HandlerRuns.j1])
        | succ kj6 =>
          have H := HA.out
          clear HA
          simp only [cablewaylaw25_HandlerRuns.j1] at H
          replace H := Option.bind_eq_some_iff.mp H
          obtain ⟨t110, A120, H⟩ := H
          replace H : (if t110 = true then (if t107 = x11_6 then (if t108 = x12_6 then (if (t109 == x13_6) = true then ((handler_Known.f x7_3).bind fun t111 => (if x7_3 ≥ 0 then (if (t111 == (decide (x7_3 ≤ 5))) = true then ((handler_Streams.f x7_3).bind fun t112 => (if x7_3 = 4 then (if (t112 == true) = true then ((handler_Changes.f x7_3).bind fun t113 => (some (t113 == (x7_3 == 1)))) else (some false)) else (if (t112 == (x7_3 == 5)) = true then ((handler_Changes.f x7_3).bind fun t114 => (some (t114 == (x7_3 == 1)))) else (some false)))) else (some false)) else (if (t111 == false) = true then ((handler_Streams.f x7_3).bind fun t115 => (if x7_3 = 4 then (if (t115 == true) = true then ((handler_Changes.f x7_3).bind fun t116 => (some (t116 == (x7_3 == 1)))) else (some false)) else (if (t115 == (x7_3 == 5)) = true then ((handler_Changes.f x7_3).bind fun t117 => (some (t117 == (x7_3 == 1)))) else (some false)))) else (some false)))) else (some false)) else (some false)) else (some false)) else (some false)) = some r := H
          have A12 := Aside0.mk A120
          clear A120
          by_cases c13 : t110 = true
          · subst c13
            have H1 : (if t107 = x11_6 then (if t108 = x12_6 then (if (t109 == x13_6) = true then ((handler_Known.f x7_3).bind fun t111 => (if x7_3 ≥ 0 then (if (t111 == (decide (x7_3 ≤ 5))) = true then ((handler_Streams.f x7_3).bind fun t112 => (if x7_3 = 4 then (if (t112 == true) = true then ((handler_Changes.f x7_3).bind fun t113 => (some (t113 == (x7_3 == 1)))) else (some false)) else (if (t112 == (x7_3 == 5)) = true then ((handler_Changes.f x7_3).bind fun t114 => (some (t114 == (x7_3 == 1)))) else (some false)))) else (some false)) else (if (t111 == false) = true then ((handler_Streams.f x7_3).bind fun t115 => (if x7_3 = 4 then (if (t115 == true) = true then ((handler_Changes.f x7_3).bind fun t116 => (some (t116 == (x7_3 == 1)))) else (some false)) else (if (t115 == (x7_3 == 5)) = true then ((handler_Changes.f x7_3).bind fun t117 => (some (t117 == (x7_3 == 1)))) else (some false)))) else (some false)))) else (some false)) else (some false)) else (some false)) = some r := by rw [if_pos rfl] at H; exact H
            clear H
            have H := H1
            clear H1
            by_cases c14 : t107 = x11_6
            · rw [if_pos c14] at H
              have c14b0 : (t107 == x11_6) = true := beq_iff_eq.mpr c14
              have c14b1 : (t107 != x11_6) = false := bne_eq_false_iff_eq.mpr c14
              clear c14
              by_cases c15 : t108 = x12_6
              · rw [if_pos c15] at H
                have c15b0 : (t108 == x12_6) = true := beq_iff_eq.mpr c15
                have c15b1 : (t108 != x12_6) = false := bne_eq_false_iff_eq.mpr c15
                clear c15
                by_cases c16 : (t109 == x13_6) = true
                · rw [if_pos c16] at H
                  have c16b0 : (t109 == x13_6) = true := c16
                  (try (have c16b1 : decide (t109 = x13_6) = true := by simpa using c16))
                  (try (have c16b2 : (t109 == x13_6) = true := by simpa using c16))
                  clear c16
                  replace H := Option.bind_eq_some_iff.mp H
                  obtain ⟨t111, A170, H⟩ := H
                  replace H : (if x7_3 ≥ 0 then (if (t111 == (decide (x7_3 ≤ 5))) = true then ((handler_Streams.f x7_3).bind fun t112 => (if x7_3 = 4 then (if (t112 == true) = true then ((handler_Changes.f x7_3).bind fun t113 => (some (t113 == (x7_3 == 1)))) else (some false)) else (if (t112 == (x7_3 == 5)) = true then ((handler_Changes.f x7_3).bind fun t114 => (some (t114 == (x7_3 == 1)))) else (some false)))) else (some false)) else (if (t111 == false) = true then ((handler_Streams.f x7_3).bind fun t115 => (if x7_3 = 4 then (if (t115 == true) = true then ((handler_Changes.f x7_3).bind fun t116 => (some (t116 == (x7_3 == 1)))) else (some false)) else (if (t115 == (x7_3 == 5)) = true then ((handler_Changes.f x7_3).bind fun t117 => (some (t117 == (x7_3 == 1)))) else (some false)))) else (some false))) = some r := H
                  have A17 := Aside0.mk A170
                  clear A170
                  by_cases c18 : x7_3 ≥ 0
                  · rw [if_pos c18] at H
                    have c18b0 : decide (0 ≤ x7_3) = true := decide_eq_true c18
                    clear c18
                    by_cases c19 : (t111 == (decide (x7_3 ≤ 5))) = true
                    · rw [if_pos c19] at H
                      have c19b0 : (t111 == (decide (x7_3 ≤ 5))) = true := c19
                      (try (have c19b1 : decide (t111 = (decide (x7_3 ≤ 5))) = true := by simpa using c19))
                      (try (have c19b2 : (t111 == (decide (x7_3 ≤ 5))) = true := by simpa using c19))
                      clear c19
                      replace H := Option.bind_eq_some_iff.mp H
                      obtain ⟨t112, A200, H⟩ := H
                      replace H : (if x7_3 = 4 then (if (t112 == true) = true then ((handler_Changes.f x7_3).bind fun t113 => (some (t113 == (x7_3 == 1)))) else (some false)) else (if (t112 == (x7_3 == 5)) = true then ((handler_Changes.f x7_3).bind fun t114 => (some (t114 == (x7_3 == 1)))) else (some false))) = some r := H
                      have A20 := Aside0.mk A200
                      clear A200
                      by_cases c21 : x7_3 = 4
                      · rw [if_pos c21] at H
                        have c21b0 : (x7_3 == 4) = true := beq_iff_eq.mpr c21
                        have c21b1 : (x7_3 != 4) = false := bne_eq_false_iff_eq.mpr c21
                        clear c21
                        by_cases c22 : (t112 == true) = true
                        · rw [if_pos c22] at H
                          have c22b0 : (t112 == true) = true := c22
                          (try (have c22b1 : decide (t112 = true) = true := by simpa using c22))
                          (try (have c22b2 : (t112 == true) = true := by simpa using c22))
                          clear c22
                          replace H := Option.bind_eq_some_iff.mp H
                          obtain ⟨t113, A230, H⟩ := H
                          replace H : (some (t113 == (x7_3 == 1))) = some r := H
                          have A23 := Aside0.mk A230
                          clear A230
                          obtain rfl := Option.some.inj H
                          go_wp2_with (first | ((with_reducible refine gate_callee (f := 38) rfl ?_); refine goesL_ (some 49) rfl rfl Try.func38 (by kernel_rfl) rfl #[] rfl (by (try simp only [List.map_toArray, List.map_cons, List.map_nil]); first | done | rfl | (simp only [List.length_drop, List.length_take]; rfl)) ?_; (with_reducible refine (cablewaylaw25_awake.calls kj6  true _ A12.out).mono ?_); rintro e w' ⟨rfl, ⟨nd, rfl⟩⟩; refine ⟨_, rfl, ?_⟩) | (go_at_call 40; (with_reducible refine (handler_Known.calls x7_3 t111 _ A17.out).mono ?_); rintro e w' ⟨rfl, ⟨nd, rfl⟩⟩) | (go_at_call 41; (with_reducible refine (handler_Streams.calls x7_3 t112 _ A20.out).mono ?_); rintro e w' ⟨rfl, ⟨nd, rfl⟩⟩) | (go_at_call 42; (with_reducible refine (handler_Changes.calls x7_3 t113 _ A23.out).mono ?_); rintro e w' ⟨rfl, ⟨nd, rfl⟩⟩))
                          go_ret
                          exact ⟨by first | rfl | (simp; done) | (simp [*]; done), by repeat (first | exact Drawn0.refl _ | apply Drawn0.step)⟩
                        · rw [if_neg c22] at H
                          have c22b0 : (t112 == true) = false := by simpa using c22
                          (try (have c22b1 : decide (t112 = true) = false := by simpa using c22))
                          (try (have c22b2 : (t112 == true) = false := by simpa using c22))
                          (try (have c22b3 : ¬ (t112 = true) := by simpa using c22))
                          clear c22
                          obtain rfl := Option.some.inj H
                          go_wp2_with (first | ((with_reducible refine gate_callee (f := 38) rfl ?_); refine goesL_ (some 49) rfl rfl Try.func38 (by kernel_rfl) rfl #[] rfl (by (try simp only [List.map_toArray, List.map_cons, List.map_nil]); first | done | rfl | (simp only [List.length_drop, List.length_take]; rfl)) ?_; (with_reducible refine (cablewaylaw25_awake.calls kj6  true _ A12.out).mono ?_); rintro e w' ⟨rfl, ⟨nd, rfl⟩⟩; refine ⟨_, rfl, ?_⟩) | (go_at_call 40; (with_reducible refine (handler_Known.calls x7_3 t111 _ A17.out).mono ?_); rintro e w' ⟨rfl, ⟨nd, rfl⟩⟩) | (go_at_call 41; (with_reducible refine (handler_Streams.calls x7_3 t112 _ A20.out).mono ?_); rintro e w' ⟨rfl, ⟨nd, rfl⟩⟩))
                          go_ret
                          exact ⟨by first | rfl | (simp; done) | (simp [*]; done), by repeat (first | exact Drawn0.refl _ | apply Drawn0.step)⟩
                      · rw [if_neg c21] at H
                        have c21b0 : (x7_3 == 4) = false := beq_eq_false_iff_ne.mpr c21
                        have c21b1 : (x7_3 != 4) = true := bne_iff_ne.mpr c21
                        by_cases c24 : (t112 == (x7_3 == 5)) = true
                        · rw [if_pos c24] at H
                          have c24b0 : (t112 == (x7_3 == 5)) = true := c24
                          (try (have c24b1 : decide (t112 = (x7_3 == 5)) = true := by simpa using c24))
                          (try (have c24b2 : (t112 == (x7_3 == 5)) = true := by simpa using c24))
                          clear c24
                          replace H := Option.bind_eq_some_iff.mp H
                          obtain ⟨t114, A250, H⟩ := H
                          replace H : (some (t114 == (x7_3 == 1))) = some r := H
                          have A25 := Aside0.mk A250
                          clear A250
                          obtain rfl := Option.some.inj H
                          go_wp2_with (first | ((with_reducible refine gate_callee (f := 38) rfl ?_); refine goesL_ (some 49) rfl rfl Try.func38 (by kernel_rfl) rfl #[] rfl (by (try simp only [List.map_toArray, List.map_cons, List.map_nil]); first | done | rfl | (simp only [List.length_drop, List.length_take]; rfl)) ?_; (with_reducible refine (cablewaylaw25_awake.calls kj6  true _ A12.out).mono ?_); rintro e w' ⟨rfl, ⟨nd, rfl⟩⟩; refine ⟨_, rfl, ?_⟩) | (go_at_call 40; (with_reducible refine (handler_Known.calls x7_3 t111 _ A17.out).mono ?_); rintro e w' ⟨rfl, ⟨nd, rfl⟩⟩) | (go_at_call 41; (with_reducible refine (handler_Streams.calls x7_3 t112 _ A20.out).mono ?_); rintro e w' ⟨rfl, ⟨nd, rfl⟩⟩) | (go_at_call 42; (with_reducible refine (handler_Changes.calls x7_3 t114 _ A25.out).mono ?_); rintro e w' ⟨rfl, ⟨nd, rfl⟩⟩))
                          go_ret
                          exact ⟨by first | rfl | (simp; done) | (simp [*]; done), by repeat (first | exact Drawn0.refl _ | apply Drawn0.step)⟩
                        · rw [if_neg c24] at H
                          have c24b0 : (t112 == (x7_3 == 5)) = false := by simpa using c24
                          (try (have c24b1 : decide (t112 = (x7_3 == 5)) = false := by simpa using c24))
                          (try (have c24b2 : (t112 == (x7_3 == 5)) = false := by simpa using c24))
                          (try (have c24b3 : ¬ (t112 = (x7_3 == 5)) := by simpa using c24))
                          clear c24
                          obtain rfl := Option.some.inj H
                          go_wp2_with (first | ((with_reducible refine gate_callee (f := 38) rfl ?_); refine goesL_ (some 49) rfl rfl Try.func38 (by kernel_rfl) rfl #[] rfl (by (try simp only [List.map_toArray, List.map_cons, List.map_nil]); first | done | rfl | (simp only [List.length_drop, List.length_take]; rfl)) ?_; (with_reducible refine (cablewaylaw25_awake.calls kj6  true _ A12.out).mono ?_); rintro e w' ⟨rfl, ⟨nd, rfl⟩⟩; refine ⟨_, rfl, ?_⟩) | (go_at_call 40; (with_reducible refine (handler_Known.calls x7_3 t111 _ A17.out).mono ?_); rintro e w' ⟨rfl, ⟨nd, rfl⟩⟩) | (go_at_call 41; (with_reducible refine (handler_Streams.calls x7_3 t112 _ A20.out).mono ?_); rintro e w' ⟨rfl, ⟨nd, rfl⟩⟩))
                          go_ret
                          exact ⟨by first | rfl | (simp; done) | (simp [*]; done), by repeat (first | exact Drawn0.refl _ | apply Drawn0.step)⟩
                    · rw [if_neg c19] at H
                      have c19b0 : (t111 == (decide (x7_3 ≤ 5))) = false := by simpa using c19
                      (try (have c19b1 : decide (t111 = (decide (x7_3 ≤ 5))) = false := by simpa using c19))
                      (try (have c19b2 : (t111 == (decide (x7_3 ≤ 5))) = false := by simpa using c19))
                      (try (have c19b3 : ¬ (t111 = (decide (x7_3 ≤ 5))) := by simpa using c19))
                      clear c19
                      obtain rfl := Option.some.inj H
                      go_wp2_with (first | ((with_reducible refine gate_callee (f := 38) rfl ?_); refine goesL_ (some 49) rfl rfl Try.func38 (by kernel_rfl) rfl #[] rfl (by (try simp only [List.map_toArray, List.map_cons, List.map_nil]); first | done | rfl | (simp only [List.length_drop, List.length_take]; rfl)) ?_; (with_reducible refine (cablewaylaw25_awake.calls kj6  true _ A12.out).mono ?_); rintro e w' ⟨rfl, ⟨nd, rfl⟩⟩; refine ⟨_, rfl, ?_⟩) | (go_at_call 40; (with_reducible refine (handler_Known.calls x7_3 t111 _ A17.out).mono ?_); rintro e w' ⟨rfl, ⟨nd, rfl⟩⟩))
                      go_ret
                      exact ⟨by first | rfl | (simp; done) | (simp [*]; done), by repeat (first | exact Drawn0.refl _ | apply Drawn0.step)⟩
                  · rw [if_neg c18] at H
                    have c18b0 : decide (0 ≤ x7_3) = false := decide_eq_false c18
                    clear c18
                    by_cases c26 : (t111 == false) = true
                    · rw [if_pos c26] at H
                      have c26b0 : (t111 == false) = true := c26
                      (try (have c26b1 : decide (t111 = false) = true := by simpa using c26))
                      (try (have c26b2 : (t111 == false) = true := by simpa using c26))
                      clear c26
                      replace H := Option.bind_eq_some_iff.mp H
                      obtain ⟨t115, A270, H⟩ := H
                      replace H : (if x7_3 = 4 then (if (t115 == true) = true then ((handler_Changes.f x7_3).bind fun t116 => (some (t116 == (x7_3 == 1)))) else (some false)) else (if (t115 == (x7_3 == 5)) = true then ((handler_Changes.f x7_3).bind fun t117 => (some (t117 == (x7_3 == 1)))) else (some false))) = some r := H
                      have A27 := Aside0.mk A270
                      clear A270
                      by_cases c28 : x7_3 = 4
                      · rw [if_pos c28] at H
                        have c28b0 : (x7_3 == 4) = true := beq_iff_eq.mpr c28
                        have c28b1 : (x7_3 != 4) = false := bne_eq_false_iff_eq.mpr c28
                        clear c28
                        by_cases c29 : (t115 == true) = true
                        · rw [if_pos c29] at H
                          have c29b0 : (t115 == true) = true := c29
                          (try (have c29b1 : decide (t115 = true) = true := by simpa using c29))
                          (try (have c29b2 : (t115 == true) = true := by simpa using c29))
                          clear c29
                          replace H := Option.bind_eq_some_iff.mp H
                          obtain ⟨t116, A300, H⟩ := H
                          replace H : (some (t116 == (x7_3 == 1))) = some r := H
                          have A30 := Aside0.mk A300
                          clear A300
                          obtain rfl := Option.some.inj H
                          go_wp2_with (first | ((with_reducible refine gate_callee (f := 38) rfl ?_); refine goesL_ (some 49) rfl rfl Try.func38 (by kernel_rfl) rfl #[] rfl (by (try simp only [List.map_toArray, List.map_cons, List.map_nil]); first | done | rfl | (simp only [List.length_drop, List.length_take]; rfl)) ?_; (with_reducible refine (cablewaylaw25_awake.calls kj6  true _ A12.out).mono ?_); rintro e w' ⟨rfl, ⟨nd, rfl⟩⟩; refine ⟨_, rfl, ?_⟩) | (go_at_call 40; (with_reducible refine (handler_Known.calls x7_3 t111 _ A17.out).mono ?_); rintro e w' ⟨rfl, ⟨nd, rfl⟩⟩) | (go_at_call 41; (with_reducible refine (handler_Streams.calls x7_3 t115 _ A27.out).mono ?_); rintro e w' ⟨rfl, ⟨nd, rfl⟩⟩) | (go_at_call 42; (with_reducible refine (handler_Changes.calls x7_3 t116 _ A30.out).mono ?_); rintro e w' ⟨rfl, ⟨nd, rfl⟩⟩))
                          go_ret
                          exact ⟨by first | rfl | (simp; done) | (simp [*]; done), by repeat (first | exact Drawn0.refl _ | apply Drawn0.step)⟩
                        · rw [if_neg c29] at H
                          have c29b0 : (t115 == true) = false := by simpa using c29
                          (try (have c29b1 : decide (t115 = true) = false := by simpa using c29))
                          (try (have c29b2 : (t115 == true) = false := by simpa using c29))
                          (try (have c29b3 : ¬ (t115 = true) := by simpa using c29))
                          clear c29
                          obtain rfl := Option.some.inj H
                          go_wp2_with (first | ((with_reducible refine gate_callee (f := 38) rfl ?_); refine goesL_ (some 49) rfl rfl Try.func38 (by kernel_rfl) rfl #[] rfl (by (try simp only [List.map_toArray, List.map_cons, List.map_nil]); first | done | rfl | (simp only [List.length_drop, List.length_take]; rfl)) ?_; (with_reducible refine (cablewaylaw25_awake.calls kj6  true _ A12.out).mono ?_); rintro e w' ⟨rfl, ⟨nd, rfl⟩⟩; refine ⟨_, rfl, ?_⟩) | (go_at_call 40; (with_reducible refine (handler_Known.calls x7_3 t111 _ A17.out).mono ?_); rintro e w' ⟨rfl, ⟨nd, rfl⟩⟩) | (go_at_call 41; (with_reducible refine (handler_Streams.calls x7_3 t115 _ A27.out).mono ?_); rintro e w' ⟨rfl, ⟨nd, rfl⟩⟩))
                          go_ret
                          exact ⟨by first | rfl | (simp; done) | (simp [*]; done), by repeat (first | exact Drawn0.refl _ | apply Drawn0.step)⟩
                      · rw [if_neg c28] at H
                        have c28b0 : (x7_3 == 4) = false := beq_eq_false_iff_ne.mpr c28
                        have c28b1 : (x7_3 != 4) = true := bne_iff_ne.mpr c28
                        by_cases c31 : (t115 == (x7_3 == 5)) = true
                        · rw [if_pos c31] at H
                          have c31b0 : (t115 == (x7_3 == 5)) = true := c31
                          (try (have c31b1 : decide (t115 = (x7_3 == 5)) = true := by simpa using c31))
                          (try (have c31b2 : (t115 == (x7_3 == 5)) = true := by simpa using c31))
                          clear c31
                          replace H := Option.bind_eq_some_iff.mp H
                          obtain ⟨t117, A320, H⟩ := H
                          replace H : (some (t117 == (x7_3 == 1))) = some r := H
                          have A32 := Aside0.mk A320
                          clear A320
                          obtain rfl := Option.some.inj H
                          go_wp2_with (first | ((with_reducible refine gate_callee (f := 38) rfl ?_); refine goesL_ (some 49) rfl rfl Try.func38 (by kernel_rfl) rfl #[] rfl (by (try simp only [List.map_toArray, List.map_cons, List.map_nil]); first | done | rfl | (simp only [List.length_drop, List.length_take]; rfl)) ?_; (with_reducible refine (cablewaylaw25_awake.calls kj6  true _ A12.out).mono ?_); rintro e w' ⟨rfl, ⟨nd, rfl⟩⟩; refine ⟨_, rfl, ?_⟩) | (go_at_call 40; (with_reducible refine (handler_Known.calls x7_3 t111 _ A17.out).mono ?_); rintro e w' ⟨rfl, ⟨nd, rfl⟩⟩) | (go_at_call 41; (with_reducible refine (handler_Streams.calls x7_3 t115 _ A27.out).mono ?_); rintro e w' ⟨rfl, ⟨nd, rfl⟩⟩) | (go_at_call 42; (with_reducible refine (handler_Changes.calls x7_3 t117 _ A32.out).mono ?_); rintro e w' ⟨rfl, ⟨nd, rfl⟩⟩))
                          go_ret
                          exact ⟨by first | rfl | (simp; done) | (simp [*]; done), by repeat (first | exact Drawn0.refl _ | apply Drawn0.step)⟩
                        · rw [if_neg c31] at H
                          have c31b0 : (t115 == (x7_3 == 5)) = false := by simpa using c31
                          (try (have c31b1 : decide (t115 = (x7_3 == 5)) = false := by simpa using c31))
                          (try (have c31b2 : (t115 == (x7_3 == 5)) = false := by simpa using c31))
                          (try (have c31b3 : ¬ (t115 = (x7_3 == 5)) := by simpa using c31))
                          clear c31
                          obtain rfl := Option.some.inj H
                          go_wp2_with (first | ((with_reducible refine gate_callee (f := 38) rfl ?_); refine goesL_ (some 49) rfl rfl Try.func38 (by kernel_rfl) rfl #[] rfl (by (try simp only [List.map_toArray, List.map_cons, List.map_nil]); first | done | rfl | (simp only [List.length_drop, List.length_take]; rfl)) ?_; (with_reducible refine (cablewaylaw25_awake.calls kj6  true _ A12.out).mono ?_); rintro e w' ⟨rfl, ⟨nd, rfl⟩⟩; refine ⟨_, rfl, ?_⟩) | (go_at_call 40; (with_reducible refine (handler_Known.calls x7_3 t111 _ A17.out).mono ?_); rintro e w' ⟨rfl, ⟨nd, rfl⟩⟩) | (go_at_call 41; (with_reducible refine (handler_Streams.calls x7_3 t115 _ A27.out).mono ?_); rintro e w' ⟨rfl, ⟨nd, rfl⟩⟩))
                          go_ret
                          exact ⟨by first | rfl | (simp; done) | (simp [*]; done), by repeat (first | exact Drawn0.refl _ | apply Drawn0.step)⟩
                    · rw [if_neg c26] at H
                      have c26b0 : (t111 == false) = false := by simpa using c26
                      (try (have c26b1 : decide (t111 = false) = false := by simpa using c26))
                      (try (have c26b2 : (t111 == false) = false := by simpa using c26))
                      (try (have c26b3 : ¬ (t111 = false) := by simpa using c26))
                      clear c26
                      obtain rfl := Option.some.inj H
                      go_wp2_with (first | ((with_reducible refine gate_callee (f := 38) rfl ?_); refine goesL_ (some 49) rfl rfl Try.func38 (by kernel_rfl) rfl #[] rfl (by (try simp only [List.map_toArray, List.map_cons, List.map_nil]); first | done | rfl | (simp only [List.length_drop, List.length_take]; rfl)) ?_; (with_reducible refine (cablewaylaw25_awake.calls kj6  true _ A12.out).mono ?_); rintro e w' ⟨rfl, ⟨nd, rfl⟩⟩; refine ⟨_, rfl, ?_⟩) | (go_at_call 40; (with_reducible refine (handler_Known.calls x7_3 t111 _ A17.out).mono ?_); rintro e w' ⟨rfl, ⟨nd, rfl⟩⟩))
                      go_ret
                      exact ⟨by first | rfl | (simp; done) | (simp [*]; done), by repeat (first | exact Drawn0.refl _ | apply Drawn0.step)⟩
                · rw [if_neg c16] at H
                  have c16b0 : (t109 == x13_6) = false := by simpa using c16
                  (try (have c16b1 : decide (t109 = x13_6) = false := by simpa using c16))
                  (try (have c16b2 : (t109 == x13_6) = false := by simpa using c16))
                  (try (have c16b3 : ¬ (t109 = x13_6) := by simpa using c16))
                  clear c16
                  obtain rfl := Option.some.inj H
                  go_wp2_with (first | ((with_reducible refine gate_callee (f := 38) rfl ?_); refine goesL_ (some 49) rfl rfl Try.func38 (by kernel_rfl) rfl #[] rfl (by (try simp only [List.map_toArray, List.map_cons, List.map_nil]); first | done | rfl | (simp only [List.length_drop, List.length_take]; rfl)) ?_; (with_reducible refine (cablewaylaw25_awake.calls kj6  true _ A12.out).mono ?_); rintro e w' ⟨rfl, ⟨nd, rfl⟩⟩; refine ⟨_, rfl, ?_⟩))
                  go_ret
                  exact ⟨by first | rfl | (simp; done) | (simp [*]; done), by repeat (first | exact Drawn0.refl _ | apply Drawn0.step)⟩
              · rw [if_neg c15] at H
                have c15b0 : (t108 == x12_6) = false := beq_eq_false_iff_ne.mpr c15
                have c15b1 : (t108 != x12_6) = true := bne_iff_ne.mpr c15
                obtain rfl := Option.some.inj H
                go_wp2_with (first | ((with_reducible refine gate_callee (f := 38) rfl ?_); refine goesL_ (some 49) rfl rfl Try.func38 (by kernel_rfl) rfl #[] rfl (by (try simp only [List.map_toArray, List.map_cons, List.map_nil]); first | done | rfl | (simp only [List.length_drop, List.length_take]; rfl)) ?_; (with_reducible refine (cablewaylaw25_awake.calls kj6  true _ A12.out).mono ?_); rintro e w' ⟨rfl, ⟨nd, rfl⟩⟩; refine ⟨_, rfl, ?_⟩))
                go_ret
                exact ⟨by first | rfl | (simp; done) | (simp [*]; done), by repeat (first | exact Drawn0.refl _ | apply Drawn0.step)⟩
            · rw [if_neg c14] at H
              have c14b0 : (t107 == x11_6) = false := beq_eq_false_iff_ne.mpr c14
              have c14b1 : (t107 != x11_6) = true := bne_iff_ne.mpr c14
              obtain rfl := Option.some.inj H
              go_wp2_with (first | ((with_reducible refine gate_callee (f := 38) rfl ?_); refine goesL_ (some 49) rfl rfl Try.func38 (by kernel_rfl) rfl #[] rfl (by (try simp only [List.map_toArray, List.map_cons, List.map_nil]); first | done | rfl | (simp only [List.length_drop, List.length_take]; rfl)) ?_; (with_reducible refine (cablewaylaw25_awake.calls kj6  true _ A12.out).mono ?_); rintro e w' ⟨rfl, ⟨nd, rfl⟩⟩; refine ⟨_, rfl, ?_⟩))
              go_ret
              exact ⟨by first | rfl | (simp; done) | (simp [*]; done), by repeat (first | exact Drawn0.refl _ | apply Drawn0.step)⟩
          · replace c13 := Bool.eq_false_iff.mpr c13
            subst c13
            have H1 : (some false) = some r := by rw [if_neg (show ¬ (false = true) by decide)] at H; exact H
            clear H
            have H := H1
            clear H1
            obtain rfl := Option.some.inj H
            go_wp2_with (first | ((with_reducible refine gate_callee (f := 38) rfl ?_); refine goesL_ (some 49) rfl rfl Try.func38 (by kernel_rfl) rfl #[] rfl (by (try simp only [List.map_toArray, List.map_cons, List.map_nil]); first | done | rfl | (simp only [List.length_drop, List.length_take]; rfl)) ?_; (with_reducible refine (cablewaylaw25_awake.calls kj6  false _ A12.out).mono ?_); rintro e w' ⟨rfl, ⟨nd, rfl⟩⟩; refine ⟨_, rfl, ?_⟩))
            go_ret
            exact ⟨by first | rfl | (simp; done) | (simp [*]; done), by repeat (first | exact Drawn0.refl _ | apply Drawn0.step)⟩

/-- THE ONE PURE STATEMENT of cablewaylaw25_HandlerRuns: yours. -/
def cablewaylaw25_HandlerRuns.Pure : Prop := ∀ (a0 : Int) (a1 : Int) (a2 : Int), (Lit.int .i64 a0).wf = true → (Lit.int .u32 a1).wf = true → (Lit.int .u32 a2).wf = true → ∃ k, cablewaylaw25_HandlerRuns.f k a0 a1 a2 = some true
theorem cablewaylaw25_HandlerRuns.walk (P : cablewaylaw25_HandlerRuns.Pure) (a0 : Int) (a1 : Int) (a2 : Int) (w : World) (w0 : (Lit.int .i64 a0).wf = true) (w1 : (Lit.int .u32 a1).wf = true) (w2 : (Lit.int .u32 a2).wf = true) :
    Calls Try.prog 10 #[.int .i64 a0, .int .u32 a1, .int .u32 a2] w fun e w' => e = .returned (.bool true) ∧ Below w.heap.size w w' := by
  obtain ⟨k, h⟩ := P a0 a1 a2 w0 w1 w2
  refine (cablewaylaw25_HandlerRuns.calls k a0 a1 a2 true w h).mono ?_
  rintro e w' ⟨rfl, hd⟩
  exact ⟨rfl, hd.below⟩

end Go.Proofs.Ytidefefaealheaa.PHandlerRuns
