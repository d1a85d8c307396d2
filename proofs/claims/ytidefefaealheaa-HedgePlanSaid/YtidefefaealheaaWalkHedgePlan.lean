/- All hedges of a call, each so long behind the one ahead, ahead of its end, at most so many: the walk of HedgePlan. -/
import Derived.Test.YtidefefaealheaaPHedgePlanx1
import Derived.Test.YtidefefaealheaaOpen
import Derived.Test.YtidefefaealheaaAid
import Derived.Test.YtidefefaealheaaQuiet
import Derived.WalkKit
import Derived.BigQuiet
import Derived.LoopTactic
import Derived.Below
import Derived.KernelRfl
namespace Go.Proofs.Ytidefefaealheaa.walkHedgePlan
open Go.RowKit Go.Proofs.Ytidefefaealheaa.Open Go.Proofs.Ytidefefaealheaa.PHedgePlan Go.Proofs.YtidefefaealheaaW.PrintWords Go.Proofs.YtidefefaealheaaW.PrintLast Go.Proofs.YtidefefaealheaaW.PrintMore Go.Proofs.Ytidefefaealheaa.Aid Go.Proofs.Ytidefefaealheaa.Quiet
set_option linter.unusedVariables false
attribute [local go_sem] max2_int min2_int max_two min_two

/-- The nearest time. -/
def cl (t : Int) : Int := if t < 0 then 0 else if t > 1099511627776 then 1099511627776 else t
theorem cl_in (t : Int) : 0 ≤ cl t ∧ cl t ≤ 1099511627776 := by unfold cl; split <;> (try split) <;> omega
def af (t n : Int) : Int := if cl t + cl n > 1099511627776 then 1099511627776 else cl t + cl n
theorem refClamp_eq (t : Int) : cablewayref03_Clamp.f t = some (cl t) := by
  unfold cablewayref03_Clamp.f cl; split <;> (try split) <;> rfl
theorem clamp_eq (t : Int) : ticks_Clamp.f t = some (cl t) := by
  unfold ticks_Clamp.f cl mn mx
  congr 1
  repeat' split
  all_goals omega
theorem refAfter_eq (t n : Int) : cablewayref03_After.f t n = some (af t n) := by
  have h1 := cl_in t
  have h2 := cl_in n
  unfold cablewayref03_After.f af
  rw [refClamp_eq, refClamp_eq]
  simp only [Option.bind_some]
  rw [w64 _ (by omega) (by omega)]
  split <;> rfl
theorem after_eq (t n : Int) : ticks_After.f t n = some (af t n) := by
  have h1 := cl_in t
  have h2 := cl_in n
  unfold ticks_After.f af
  rw [clamp_eq, clamp_eq]
  simp only [Option.bind_some]
  rw [w64 _ (by omega) (by omega), w64 _ (by omega) (by omega)]
  split <;> split <;> first | rfl | (congr 1; omega)

def most (m a : Int) (su st : Bool) : Int := if su = true then 0 else if st = true then 0 else if cl a = 0 then 0 else mn (mx m 0) 14
theorem most_eq (a0_0 a0_1 a1_0 a1_1 a1_2 a1_3 a1_4 a1_5 a1_6 : Int) (a1_7 a1_8 : Bool) (a1_9 a1_10 : Int) : hedge_Most.f a0_0 a0_1 a1_0 a1_1 a1_2 a1_3 a1_4 a1_5 a1_6 a1_7 a1_8 a1_9 a1_10 = some (most a0_0 a0_1 a1_7 a1_8) := by
  unfold hedge_Most.f most
  rw [clamp_eq]
  simp only [Option.bind_some]
  repeat' split
  all_goals rfl
def next (m a : Int) (su st : Bool) (sent last stop : Int) : Int := if sent < 0 ∨ sent ≥ most m a su st ∨ af last a ≥ cl stop then 1099511627776 else af last a
theorem next_eq (a0_0 a0_1 a1_0 a1_1 a1_2 a1_3 a1_4 a1_5 a1_6 : Int) (a1_7 a1_8 : Bool) (a1_9 a1_10 a2 a3 a4 : Int) :
    hedge_Next.f 5 a0_0 a0_1 a1_0 a1_1 a1_2 a1_3 a1_4 a1_5 a1_6 a1_7 a1_8 a1_9 a1_10 a2 a3 a4 = some (next a0_0 a0_1 a1_7 a1_8 a2 a3 a4) := by
  unfold hedge_Next.f next
  rw [most_eq]
  simp only [Option.bind_some, hedge_Next.j0, after_eq, clamp_eq]
  by_cases h1 : a2 ≥ most a0_0 a0_1 a1_7 a1_8
  · simp [h1]
  · by_cases h2 : a2 < 0
    · simp [h1, h2]
    · by_cases h3 : af a3 a0_1 ≥ cl a4
      · simp [h1, h2, h3]
      · simp [h1, h2, h3]
theorem hedge_awake : cablewaylaw18_awake.f 20 = some true := by kernel_rfl

/-- When the n-th hedge is sent, if it is. -/
def at_ (b a : Int) : Nat → Int
  | 0 => cl b
  | n + 1 => af (at_ b a n) a
def Goes (most b a stop : Int) (n : Nat) : Prop := (n : Int) < most ∧ at_ b a (n + 1) < cl stop

theorem goes_end (most b a stop : Int) (hm : most ≤ 14) (d : Nat) : ∀ n, n + d = 14 → (∀ i, i < n → Goes most b a stop i) → ∃ len, len ≤ 14 ∧ (∀ i, i < len → Goes most b a stop i) ∧ ¬ Goes most b a stop len := by
  induction d with
  | zero => exact fun n hn h => ⟨n, by omega, h, fun g => by have := g.1; omega⟩
  | succ d ih =>
    intro n hn h
    by_cases g : Goes most b a stop n
    · exact ih (n + 1) (by omega) (fun i hi => by
        rcases Nat.lt_or_ge i n with h' | h'
        · exact h i h'
        · obtain rfl : i = n := by omega
          exact g)
    · exact ⟨n, by omega, h, g⟩
def planTo (b a : Int) (n : Nat) : List Int := (List.range n).map fun i => at_ b a (i + 1)
theorem planTo_succ (b a : Int) (n : Nat) : planTo b a (n + 1) = planTo b a n ++ [at_ b a (n + 1)] := by simp [planTo, List.range_succ]
theorem planTo_len (b a : Int) (n : Nat) : (planTo b a n).length = n := by simp [planTo]
theorem plan_eq (a0_0 a0_1 a1_0 a1_1 a1_2 a1_3 a1_4 a1_5 a1_6 a1_9 a1_10 : Int) (a1_7 a1_8 : Bool) (a2 a3 : Int) (len : Nat) (h14 : len ≤ 14) (h : ∀ i, i < len → Goes (most a0_0 a0_1 a1_7 a1_8) a2 a0_1 a3 i) (h' : ¬ Goes (most a0_0 a0_1 a1_7 a1_8) a2 a0_1 a3 len) (d : Nat) :
    ∀ (k n : Nat), n + d = len → d + 6 ≤ k → hedge_Plan.l0 k a3 (planTo a2 a0_1 n) (at_ a2 a0_1 n) a0_0 a0_1 a1_0 a1_1 a1_2 a1_3 a1_4 a1_5 a1_6 a1_7 a1_8 a1_9 a1_10 = some (planTo a2 a0_1 len) := by
  have hc := cl_in a3
  induction d with
  | zero =>
    intro k n hn hk
    obtain ⟨k, rfl⟩ : ∃ m, k = m + 1 := ⟨k - 1, by omega⟩
    obtain rfl : n = len := by omega
    simp only [hedge_Plan.l0]
    have e := at_rounds (fun k => hedge_Next.mono a0_0 a0_1 a1_0 a1_1 a1_2 a1_3 a1_4 a1_5 a1_6 a1_7 a1_8 a1_9 a1_10 (n : Int) (at_ a2 a0_1 n) a3 k) (show 5 ≤ k by omega) (next_eq a0_0 a0_1 a1_0 a1_1 a1_2 a1_3 a1_4 a1_5 a1_6 a1_7 a1_8 a1_9 a1_10 (n : Int) (at_ a2 a0_1 n) a3)
    rw [planTo_len, e]
    have e2 : next a0_0 a0_1 a1_7 a1_8 (n : Int) (at_ a2 a0_1 n) a3 = 1099511627776 := by
      unfold next
      rw [if_pos]
      unfold Goes at h'
      simp only [at_] at h'
      omega
    rw [e2]; rfl
  | succ d ih =>
    intro k n hn hk
    obtain ⟨k, rfl⟩ : ∃ m, k = m + 1 := ⟨k - 1, by omega⟩
    simp only [hedge_Plan.l0]
    have e := at_rounds (fun k => hedge_Next.mono a0_0 a0_1 a1_0 a1_1 a1_2 a1_3 a1_4 a1_5 a1_6 a1_7 a1_8 a1_9 a1_10 (n : Int) (at_ a2 a0_1 n) a3 k) (show 5 ≤ k by omega) (next_eq a0_0 a0_1 a1_0 a1_1 a1_2 a1_3 a1_4 a1_5 a1_6 a1_7 a1_8 a1_9 a1_10 (n : Int) (at_ a2 a0_1 n) a3)
    have g := h n (by omega)
    have e2 : next a0_0 a0_1 a1_7 a1_8 (n : Int) (at_ a2 a0_1 n) a3 = at_ a2 a0_1 (n + 1) := by
      unfold next
      rw [if_neg]
      · rfl
      · have := g.1; have := g.2; simp only [at_] at this; omega
    rw [planTo_len, e, e2]
    simp only [Option.bind_some]
    rw [if_neg (by have := g.2; omega), if_pos (by omega), ← planTo_succ]
    exact ih k (n + 1) (by omega) (by omega)


set_option maxHeartbeats 4000000 in
set_option maxRecDepth 100000 in
theorem core (a0_0 a0_1 a1_0 a1_1 a1_2 a1_3 a1_4 a1_5 a1_6 : Int) (a1_7 a1_8 : Bool) (a1_9 a1_10 a2_0 a2_1 mo : Int) (len : Nat) (W : World) (h14 : len ≤ 14)
    (hmo : most a0_0 a0_1 a1_7 a1_8 = mo) (hG : ∀ i, i < len → Goes mo a2_0 a0_1 a2_1 i) (hE : ¬ Goes mo a2_0 a0_1 a2_1 len)
    (HP : hedge_Plan.f 40 a0_0 a0_1 a1_0 a1_1 a1_2 a1_3 a1_4 a1_5 a1_6 a1_7 a1_8 a1_9 a1_10 a2_0 a2_1 = some (planTo a2_0 a0_1 len)) :
    Calls Try.prog 12 #[.agg #[.int .i64 a0_0, .int .i64 a0_1], .agg #[.int .i64 a1_0, .int .i64 a1_1, .int .i64 a1_2, .int .i64 a1_3, .int .i64 a1_4, .int .u32 a1_5, .int .i64 a1_6, .bool a1_7, .bool a1_8, .int .i64 a1_9, .int .u32 a1_10], .agg #[.int .i64 a2_0, .int .i64 a2_1]] W fun e W' => e = .returned (.bool true) ∧ Below W.heap.size W W' := by
  have HMo : hedge_Most.f a0_0 a0_1 a1_0 a1_1 a1_2 a1_3 a1_4 a1_5 a1_6 a1_7 a1_8 a1_9 a1_10 = some mo := by rw [most_eq, hmo]
  clear hmo
  have G := Aside0.mk hG
  have E := Aside0.mk hE
  clear hG hE
  have K0 := Aside0.mk (show (((W.alloc (.cells #[.int .i64 a0_0, .int .i64 a0_1] 65)).alloc (.cells #[.int .i64 a1_0, .int .i64 a1_1, .int .i64 a1_2, .int .i64 a1_3, .int .i64 a1_4, .int .u32 a1_5, .int .i64 a1_6, .bool a1_7, .bool a1_8, .int .i64 a1_9, .int .u32 a1_10] 67)).alloc (.cells #[.int .i64 a2_0, .int .i64 a2_1] 74)).heap[W.heap.size]? = some (.cells #[.int .i64 a0_0, .int .i64 a0_1] 65 (0, 0)) from heap_old (heap_old (heap_new _ _)))
  have K1 := Aside0.mk (show (((W.alloc (.cells #[.int .i64 a0_0, .int .i64 a0_1] 65)).alloc (.cells #[.int .i64 a1_0, .int .i64 a1_1, .int .i64 a1_2, .int .i64 a1_3, .int .i64 a1_4, .int .u32 a1_5, .int .i64 a1_6, .bool a1_7, .bool a1_8, .int .i64 a1_9, .int .u32 a1_10] 67)).alloc (.cells #[.int .i64 a2_0, .int .i64 a2_1] 74)).heap[W.heap.size + 1]? = some (.cells #[.int .i64 a1_0, .int .i64 a1_1, .int .i64 a1_2, .int .i64 a1_3, .int .i64 a1_4, .int .u32 a1_5, .int .i64 a1_6, .bool a1_7, .bool a1_8, .int .i64 a1_9, .int .u32 a1_10] 67 (0, 0)) from heap_old (heap_new' _ (by simp)))
  have K2 := Aside0.mk (show (((W.alloc (.cells #[.int .i64 a0_0, .int .i64 a0_1] 65)).alloc (.cells #[.int .i64 a1_0, .int .i64 a1_1, .int .i64 a1_2, .int .i64 a1_3, .int .i64 a1_4, .int .u32 a1_5, .int .i64 a1_6, .bool a1_7, .bool a1_8, .int .i64 a1_9, .int .u32 a1_10] 67)).alloc (.cells #[.int .i64 a2_0, .int .i64 a2_1] 74)).heap[W.heap.size + 1 + 1]? = some (.cells #[.int .i64 a2_0, .int .i64 a2_1] 74 (0, 0)) from heap_new' _ (by simp))
  have KB := Aside0.mk (show Below W.heap.size W (((W.alloc (.cells #[.int .i64 a0_0, .int .i64 a0_1] 65)).alloc (.cells #[.int .i64 a1_0, .int .i64 a1_1, .int .i64 a1_2, .int .i64 a1_3, .int .i64 a1_4, .int .u32 a1_5, .int .i64 a1_6, .bool a1_7, .bool a1_8, .int .i64 a1_9, .int .u32 a1_10] 67)).alloc (.cells #[.int .i64 a2_0, .int .i64 a2_1] 74)) from ((((Below.refl _ _).alloc (Nat.le_refl _) _).alloc (by simp) _).alloc (by simp <;> omega) _))
  go_enter Try.func12, Try.ntmps12
  go_wp2_with (first
    | (go_at_call 48; refine (hedge_Plan.calls 40 _ _ _ _ _ _ _ _ _ _ _ _ _ _ _ _ _ HP).mono ?_; rintro e w3 ⟨pv, rfl, hR, hb3⟩; have L3 : W.heap.size + 2 < w3.heap.size := Nat.lt_of_lt_of_le (by simp <;> omega) hb3.size; have H0 := Aside0.mk ((hb3.block W.heap.size (by simp <;> omega)).trans K0.out); have H1 := Aside0.mk ((hb3.block (W.heap.size + 1) (by simp <;> omega)).trans K1.out); have H2 := Aside0.mk ((hb3.block (W.heap.size + 1 + 1) (by simp <;> omega)).trans K2.out); have q3 := hb3.mono (B' := W.heap.size) (by simp <;> omega); have B3 := Aside0.mk (carry KB.out q3 rfl rfl rfl rfl); clear q3; obtain ⟨A, c, rfl, hlc, hC⟩ := Kd.R_reads hR; have HC := Aside0.mk hC; have C0 := cell_blk H0.out; have C1 := cell_blk H1.out; have C2 := cell_blk H2.out; clear hC hR hb3)
    | (go_at_call 43; refine (cablewayref03_Clamp.calls _ _ _ (refClamp_eq _)).mono ?_; rintro e w' ⟨rfl, ⟨nd, rfl⟩⟩))
  rw [planTo_len] at *
  generalize hW4 : w3.drewN nd = W4
  have Q0 := Aside0.mk (show W4.heap[W.heap.size]? = _ by subst hW4; exact H0.out)
  have Q1 := Aside0.mk (show W4.heap[W.heap.size + 1]? = _ by subst hW4; exact H1.out)
  have Q2 := Aside0.mk (show W4.heap[W.heap.size + 1 + 1]? = _ by subst hW4; exact H2.out)
  have QC := Aside0.mk (show Kd.C (Kd.int .i64) W4 A len (planTo a2_0 a0_1 len) by subst hW4; exact Kd.C_drewN HC.out nd)
  have QB := Aside0.mk (show Below W.heap.size W W4 by subst hW4; exact below_drewN B3.out nd)
  have QL : W.heap.size + 2 < W4.heap.size := by subst hW4; exact L3
  clear H0 H1 H2 HC B3 L3 C0 C1 C2 K0 K1 K2 KB hW4
  go_loopw [8, 9] (fun a n wr => ∃ k : Nat, k ≤ len ∧ a = .int .i64 (at_ a2_0 a0_1 k) ∧ n = .int .i64 k ∧ Below W4.heap.size W4 wr) (fun _ n _ => len - (intOf n).toNat)
  case atStart => exact ⟨0, Nat.zero_le _, rfl, rfl, Below.refl _ _⟩
  case round =>
    obtain ⟨k, hk, rfl, rfl, hb⟩ := hrel
    have D0 := cell_blk (Below.blk hb (by omega) Q0.out); have D1 := cell_blk (Below.blk hb (by omega) Q1.out); have D2 := cell_blk (Below.blk hb (by omega) Q2.out)
    have hsz := hb.size
    by_cases hlt : k < len
    · obtain ⟨ad, rfl, hc⟩ := Kd.at_int QC.out (k : Int) (by omega) (by omega)
      have hrd : rd (planTo a2_0 a0_1 len) (k : Int) = at_ a2_0 a0_1 (k + 1) := by unfold rd planTo; simp [hlt]
      rw [hrd, Int.toNat_natCast] at hc
      have hadl := World.block_lt_of_cell? _ _ hc
      have g1 := (G.out k hlt).1
      have g2 := (G.out k hlt).2
      simp only [at_] at g2 hc
      go_wp2_with (first
        | (go_at_call 46; refine (hedge_Most.calls _ _ _ _ _ _ _ _ _ _ _ _ _ _ _ HMo).mono ?_; rintro e w4 ⟨rfl, hb4⟩; have hb5 := hb.trans (hb4.mono hsz); have E0 := cell_blk (Below.blk hb5 (by omega) Q0.out); have E1 := cell_blk (Below.blk hb5 (by omega) Q1.out); have E2 := cell_blk (Below.blk hb5 (by omega) Q2.out); have ec := (hb5.cell hadl).trans hc)
        | (go_at_call 44; refine (cablewayref03_After.calls _ _ _ _ (refAfter_eq _ _)).mono ?_; rintro e w' ⟨rfl, ⟨nd2, rfl⟩⟩)
        | (go_at_call 43; refine (cablewayref03_Clamp.calls _ _ _ (refClamp_eq _)).mono ?_; rintro e w' ⟨rfl, ⟨nd3, rfl⟩⟩))
      go_roundw
      case rel => exact ⟨k + 1, by omega, rfl, by go_num, below_drewN hb5 _⟩
      case measure => simp [intOf]; omega
    · obtain rfl : k = len := by omega
      have hE := E.out
      unfold Goes at hE
      simp only [at_] at hE
      go_wp2_with (first
        | (go_at_call 46; refine (hedge_Most.calls _ _ _ _ _ _ _ _ _ _ _ _ _ _ _ HMo).mono ?_; rintro e w4 ⟨rfl, hb4⟩; have hb5 := hb.trans (hb4.mono hsz); have E0 := cell_blk (Below.blk hb5 (by omega) Q0.out); have E1 := cell_blk (Below.blk hb5 (by omega) Q1.out); have E2 := cell_blk (Below.blk hb5 (by omega) Q2.out))
        | (go_at_call 44; refine (cablewayref03_After.calls _ _ _ _ (refAfter_eq _ _)).mono ?_; rintro e w' ⟨rfl, ⟨nd2, rfl⟩⟩)
        | (go_at_call 43; refine (cablewayref03_Clamp.calls _ _ _ (refClamp_eq _)).mono ?_; rintro e w' ⟨rfl, ⟨nd3, rfl⟩⟩)
        | (go_at_call 45; refine (cablewaylaw18_awake.calls 20 _ _ hedge_awake).mono ?_; rintro e w6 ⟨rfl, hb6⟩))
      all_goals go_ret
      all_goals have hw : W.heap.size ≤ w4.heap.size := by have := hb5.size; omega
      all_goals refine ⟨?_, QB.out.trans ((hb5.mono (by omega)).trans (by first | exact hb6.mono hw | exact (below_drewN (Below.refl _ _) _).trans (hb6.mono hw)))⟩
      all_goals show Ending.returned (.bool _) = _
      all_goals simp

theorem walk (a0_0 : Int) (a0_1 : Int) (a1_0 : Int) (a1_1 : Int) (a1_2 : Int) (a1_3 : Int) (a1_4 : Int) (a1_5 : Int) (a1_6 : Int) (a1_7 : Bool) (a1_8 : Bool) (a1_9 : Int) (a1_10 : Int) (a2_0 : Int) (a2_1 : Int) (W : World) (w0_0 : (Lit.int .i64 a0_0).wf = true) (w0_1 : (Lit.int .i64 a0_1).wf = true) (w1_0 : (Lit.int .i64 a1_0).wf = true) (w1_1 : (Lit.int .i64 a1_1).wf = true) (w1_2 : (Lit.int .i64 a1_2).wf = true) (w1_3 : (Lit.int .i64 a1_3).wf = true) (w1_4 : (Lit.int .i64 a1_4).wf = true) (w1_5 : (Lit.int .u32 a1_5).wf = true) (w1_6 : (Lit.int .i64 a1_6).wf = true) (w1_9 : (Lit.int .i64 a1_9).wf = true) (w1_10 : (Lit.int .u32 a1_10).wf = true) (w2_0 : (Lit.int .i64 a2_0).wf = true) (w2_1 : (Lit.int .i64 a2_1).wf = true) :
    Calls Try.prog 12 #[.agg #[.int .i64 a0_0, .int .i64 a0_1], .agg #[.int .i64 a1_0, .int .i64 a1_1, .int .i64 a1_2, .int .i64 a1_3, .int .i64 a1_4, .int .u32 a1_5, .int .i64 a1_6, .bool a1_7, .bool a1_8, .int .i64 a1_9, .int .u32 a1_10], .agg #[.int .i64 a2_0, .int .i64 a2_1]] W fun e W' => e = .returned (.bool true) ∧ Below W.heap.size W W' := by
  have hm14 : most a0_0 a0_1 a1_7 a1_8 ≤ 14 := by unfold most mn mx; repeat' split
                                                  all_goals omega
  obtain ⟨len, h14, hG, hE⟩ := goes_end (most a0_0 a0_1 a1_7 a1_8) a2_0 a0_1 a2_1 hm14 14 0 (by omega) (fun i hi => absurd hi (by omega))
  refine core a0_0 a0_1 a1_0 a1_1 a1_2 a1_3 a1_4 a1_5 a1_6 a1_7 a1_8 a1_9 a1_10 a2_0 a2_1 _ len W h14 rfl hG hE ?_
  unfold hedge_Plan.f
  rw [clamp_eq]
  simp only [Option.bind_some]
  exact plan_eq a0_0 a0_1 a1_0 a1_1 a1_2 a1_3 a1_4 a1_5 a1_6 a1_9 a1_10 a1_7 a1_8 a2_0 a2_1 len h14 hG hE len 40 0 (by omega) (by omega)
end Go.Proofs.Ytidefefaealheaa.walkHedgePlan
