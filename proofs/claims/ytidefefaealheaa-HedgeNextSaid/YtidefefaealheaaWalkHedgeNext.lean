/- When the next hedge is sent, and how many there may be: the walk of HedgeNext. -/
import Derived.Test.YtidefefaealheaaPHedgeNextx1
import Derived.Test.YtidefefaealheaaOpen
import Derived.Test.YtidefefaealheaaAid
import Derived.Test.YtidefefaealheaaQuiet
import Derived.WalkKit
import Derived.BigQuiet
import Derived.Below
import Derived.KernelRfl
namespace Go.Proofs.Ytidefefaealheaa.walkHedgeNext
open Go.RowKit Go.Proofs.Ytidefefaealheaa.Open Go.Proofs.Ytidefefaealheaa.PHedgeNext Go.Proofs.YtidefefaealheaaW.PrintWords Go.Proofs.YtidefefaealheaaW.PrintLast Go.Proofs.YtidefefaealheaaW.PrintMore Go.Proofs.Ytidefefaealheaa.Aid Go.Proofs.Ytidefefaealheaa.Quiet
set_option linter.unusedVariables false
attribute [local go_sem] max2_int min2_int max_two min_two

/-- The nearest time. -/
def cl (t : Int) : Int := if t < 0 then 0 else if t > 1099511627776 then 1099511627776 else t
theorem cl_in (t : Int) : 0 ≤ cl t ∧ cl t ≤ 1099511627776 := by unfold cl; split <;> (try split) <;> omega
def af (t n : Int) : Int := if cl t + cl n > 1099511627776 then 1099511627776 else cl t + cl n
theorem refClamp_eq (t : Int) : cablewayref03_Clamp.f t = some (cl t) := by
  unfold cablewayref03_Clamp.f cl; split <;> (try split) <;> rfl
theorem clamp_eq (t : Int) : ticks_Clamp.f t = some (cl t) := by
  unfold ticks_Clamp.f cl mn mx
  congr 1
  repeat' split
  all_goals omega
theorem refAfter_eq (t n : Int) : cablewayref03_After.f t n = some (af t n) := by
  have h1 := cl_in t
  have h2 := cl_in n
  unfold cablewayref03_After.f af
  rw [refClamp_eq, refClamp_eq]
  simp only [Option.bind_some]
  rw [w64 _ (by omega) (by omega)]
  split <;> rfl
theorem after_eq (t n : Int) : ticks_After.f t n = some (af t n) := by
  have h1 := cl_in t
  have h2 := cl_in n
  unfold ticks_After.f af
  rw [clamp_eq, clamp_eq]
  simp only [Option.bind_some]
  rw [w64 _ (by omega) (by omega), w64 _ (by omega) (by omega)]
  split <;> split <;> first | rfl | (congr 1; omega)

def most (m a : Int) (su st : Bool) : Int := if su = true then 0 else if st = true then 0 else if cl a = 0 then 0 else mn (mx m 0) 14
theorem most_eq (a0_0 a0_1 a1_0 a1_1 a1_2 a1_3 a1_4 a1_5 a1_6 : Int) (a1_7 a1_8 : Bool) (a1_9 a1_10 : Int) : hedge_Most.f a0_0 a0_1 a1_0 a1_1 a1_2 a1_3 a1_4 a1_5 a1_6 a1_7 a1_8 a1_9 a1_10 = some (most a0_0 a0_1 a1_7 a1_8) := by
  unfold hedge_Most.f most
  rw [clamp_eq]
  simp only [Option.bind_some]
  repeat' split
  all_goals rfl
def next (m a : Int) (su st : Bool) (sent last stop : Int) : Int := if sent < 0 ∨ sent ≥ most m a su st ∨ af last a ≥ cl stop then 1099511627776 else af last a
theorem next_eq (a0_0 a0_1 a1_0 a1_1 a1_2 a1_3 a1_4 a1_5 a1_6 : Int) (a1_7 a1_8 : Bool) (a1_9 a1_10 a2 a3 a4 : Int) :
    hedge_Next.f 5 a0_0 a0_1 a1_0 a1_1 a1_2 a1_3 a1_4 a1_5 a1_6 a1_7 a1_8 a1_9 a1_10 a2 a3 a4 = some (next a0_0 a0_1 a1_7 a1_8 a2 a3 a4) := by
  unfold hedge_Next.f next
  rw [most_eq]
  simp only [Option.bind_some, hedge_Next.j0, after_eq, clamp_eq]
  by_cases h1 : a2 ≥ most a0_0 a0_1 a1_7 a1_8
  · simp [h1]
  · by_cases h2 : a2 < 0
    · simp [h1, h2]
    · by_cases h3 : af a3 a0_1 ≥ cl a4
      · simp [h1, h2, h3]
      · simp [h1, h2, h3]
theorem hedge_awake : cablewaylaw18_awake.f 20 = some true := by kernel_rfl
theorem cell_blk {w : World} {g : Nat} {cs : Array Value} {t : TypeId} {fr : Nat × Nat} (h : w.heap[g]? = some (.cells cs t fr)) (i : Nat) : w.cell? ⟨g, i, none⟩ = cs[i]? := by
  simp [World.cell?, h]

theorem heap_new (w : World) (o : Obj) : (w.alloc o).heap[w.heap.size]? = some o := by
  show (w.heap.push o)[w.heap.size]? = some o
  simp
theorem heap_new' {w : World} {n : Nat} (o : Obj) (h : w.heap.size = n) : (w.alloc o).heap[n]? = some o := h ▸ heap_new w o
theorem heap_old {w : World} {o o' : Obj} {k : Nat} (h : w.heap[k]? = some o') : (w.alloc o).heap[k]? = some o' :=
  (Below.heap_alloc w o k (by
    rcases Nat.lt_or_ge k w.heap.size with hk | hk
    · exact hk
    · rw [Array.getElem?_eq_none hk] at h; simp at h)).trans h

theorem carry {B : Nat} {W C X w : World} (h : Below B W C) (k : Below B X w) (h1 : X.heap = C.heap) (h2 : X.os = C.os) (h3 : X.tape = C.tape) (h4 : X.output = C.output) : Below B W w :=
  h.trans (Below.trans ⟨h2, h3, h4, by rw [h1]; exact Nat.le_refl _, fun _ _ => by rw [h1]⟩ k)

set_option maxHeartbeats 4000000 in
set_option maxRecDepth 100000 in
theorem core_t (a0_0 a0_1 a1_0 a1_1 a1_2 a1_3 a1_4 a1_5 a1_6 : Int) (a1_8 : Bool) (a1_9 a1_10 a2_0 a2_1 a2_2 x y nx : Int) (W : World) 
    (HX : (if a0_0 < 0 then 0 else a0_0) = x) (HY : (if 14 < x then 14 else x) = y) (HMo : hedge_Most.f a0_0 a0_1 a1_0 a1_1 a1_2 a1_3 a1_4 a1_5 a1_6 true a1_8 a1_9 a1_10 = some 0)
    (HN : hedge_Next.f 5 a0_0 a0_1 a1_0 a1_1 a1_2 a1_3 a1_4 a1_5 a1_6 true a1_8 a1_9 a1_10 a2_0 a2_1 a2_2 = some nx)
    (hnx : nx = if a2_0 < 0 ∨ a2_0 ≥ 0 ∨ af a2_1 a0_1 ≥ cl a2_2 then 1099511627776 else af a2_1 a0_1) :
    Calls Try.prog 11 #[.agg #[.int .i64 a0_0, .int .i64 a0_1], .agg #[.int .i64 a1_0, .int .i64 a1_1, .int .i64 a1_2, .int .i64 a1_3, .int .i64 a1_4, .int .u32 a1_5, .int .i64 a1_6, .bool true, .bool a1_8, .int .i64 a1_9, .int .u32 a1_10], .agg #[.int .i64 a2_0, .int .i64 a2_1, .int .i64 a2_2]] W fun e W' => e = .returned (.bool true) ∧ Below W.heap.size W W' := by
  have HD := Aside0.mk hnx
  clear hnx
  have K0 := Aside0.mk (show (((W.alloc (.cells #[.int .i64 a0_0, .int .i64 a0_1] 65)).alloc (.cells #[.int .i64 a1_0, .int .i64 a1_1, .int .i64 a1_2, .int .i64 a1_3, .int .i64 a1_4, .int .u32 a1_5, .int .i64 a1_6, .bool true, .bool a1_8, .int .i64 a1_9, .int .u32 a1_10] 67)).alloc (.cells #[.int .i64 a2_0, .int .i64 a2_1, .int .i64 a2_2] 68)).heap[W.heap.size]? = some (.cells #[.int .i64 a0_0, .int .i64 a0_1] 65 (0, 0)) from heap_old (heap_old (heap_new _ _)))
  have K1 := Aside0.mk (show (((W.alloc (.cells #[.int .i64 a0_0, .int .i64 a0_1] 65)).alloc (.cells #[.int .i64 a1_0, .int .i64 a1_1, .int .i64 a1_2, .int .i64 a1_3, .int .i64 a1_4, .int .u32 a1_5, .int .i64 a1_6, .bool true, .bool a1_8, .int .i64 a1_9, .int .u32 a1_10] 67)).alloc (.cells #[.int .i64 a2_0, .int .i64 a2_1, .int .i64 a2_2] 68)).heap[W.heap.size + 1]? = some (.cells #[.int .i64 a1_0, .int .i64 a1_1, .int .i64 a1_2, .int .i64 a1_3, .int .i64 a1_4, .int .u32 a1_5, .int .i64 a1_6, .bool true, .bool a1_8, .int .i64 a1_9, .int .u32 a1_10] 67 (0, 0)) from heap_old (heap_new' _ (by simp)))
  have KB := Aside0.mk (show Below W.heap.size W (((W.alloc (.cells #[.int .i64 a0_0, .int .i64 a0_1] 65)).alloc (.cells #[.int .i64 a1_0, .int .i64 a1_1, .int .i64 a1_2, .int .i64 a1_3, .int .i64 a1_4, .int .u32 a1_5, .int .i64 a1_6, .bool true, .bool a1_8, .int .i64 a1_9, .int .u32 a1_10] 67)).alloc (.cells #[.int .i64 a2_0, .int .i64 a2_1, .int .i64 a2_2] 68)) from ((((Below.refl _ _).alloc (Nat.le_refl _) _).alloc (by simp) _).alloc (by simp <;> omega) _))
  go_enter Try.func11, Try.ntmps11
  go_wp2_with (first | (go_at_call 43; refine (cablewayref03_Clamp.calls _ _ _ (refClamp_eq _)).mono ?_; rintro e w' ⟨rfl, ⟨nd, rfl⟩⟩))
  go_quiet (fail)
  go_wp2_with (first
    | (go_at_call 44; refine (cablewayref03_After.calls _ _ _ _ (refAfter_eq _ _)).mono ?_; rintro e w' ⟨rfl, ⟨nd2, rfl⟩⟩)
    | (go_at_call 43; refine (cablewayref03_Clamp.calls _ _ _ (refClamp_eq _)).mono ?_; rintro e w' ⟨rfl, ⟨nd3, rfl⟩⟩)
    | (go_at_call 45; refine (cablewaylaw18_awake.calls 20 _ _ hedge_awake).mono ?_; rintro e w3 ⟨rfl, hb3⟩; have L3 : W.heap.size + 2 < w3.heap.size := Nat.lt_of_lt_of_le (by simp <;> omega) hb3.size; have C0 := cell_blk ((hb3.block W.heap.size (by simp <;> omega)).trans K0.out); have C1 := cell_blk ((hb3.block (W.heap.size + 1) (by simp <;> omega)).trans K1.out); have q3 := hb3.mono (B' := W.heap.size) (by simp <;> omega); have B3 := Aside0.mk (carry KB.out q3 rfl rfl rfl rfl); clear q3)
    | (go_at_call 46; refine (hedge_Most.calls _ _ _ _ _ _ _ _ _ _ _ _ _ _ _ HMo).mono ?_; rintro e w4 ⟨rfl, hb4⟩
       have B4 := Aside0.mk (B3.out.trans (hb4.mono (by omega)))
       have L4 : W.heap.size + 2 < w4.heap.size := Nat.lt_of_lt_of_le L3 hb4.size
       have C2 := fun i => (hb4.cell (p := ⟨W.heap.size, i, none⟩) (by show W.heap.size < w3.heap.size; omega)).trans (C0 i); have C3 := fun i => (hb4.cell (p := ⟨W.heap.size + 1, i, none⟩) (by show W.heap.size + 1 < w3.heap.size; omega)).trans (C1 i))
    | (go_at_call 47; refine (hedge_Next.calls 5 _ _ _ _ _ _ _ _ _ _ _ _ _ _ _ _ _ _ HN).mono ?_; rintro e w5 ⟨rfl, hb5⟩
       have B5 := B4.out.trans (hb5.mono (by omega))))
  all_goals go_ret
  all_goals refine ⟨?_, B5⟩
  all_goals show Ending.returned (.bool _) = _
  all_goals congr 2
  all_goals rw [beq_iff_eq, HD.out]
  all_goals first | (rw [if_pos (by omega)]) | (rw [if_neg (by omega)])

set_option maxHeartbeats 4000000 in
set_option maxRecDepth 100000 in
theorem core_ft (a0_0 a0_1 a1_0 a1_1 a1_2 a1_3 a1_4 a1_5 a1_6 : Int) (a1_8 : Bool) (a1_9 a1_10 a2_0 a2_1 a2_2 x y nx : Int) (W : World) 
    (HX : (if a0_0 < 0 then 0 else a0_0) = x) (HY : (if 14 < x then 14 else x) = y) (HMo : hedge_Most.f a0_0 a0_1 a1_0 a1_1 a1_2 a1_3 a1_4 a1_5 a1_6 false true a1_9 a1_10 = some 0)
    (HN : hedge_Next.f 5 a0_0 a0_1 a1_0 a1_1 a1_2 a1_3 a1_4 a1_5 a1_6 false true a1_9 a1_10 a2_0 a2_1 a2_2 = some nx)
    (hnx : nx = if a2_0 < 0 ∨ a2_0 ≥ 0 ∨ af a2_1 a0_1 ≥ cl a2_2 then 1099511627776 else af a2_1 a0_1) :
    Calls Try.prog 11 #[.agg #[.int .i64 a0_0, .int .i64 a0_1], .agg #[.int .i64 a1_0, .int .i64 a1_1, .int .i64 a1_2, .int .i64 a1_3, .int .i64 a1_4, .int .u32 a1_5, .int .i64 a1_6, .bool false, .bool true, .int .i64 a1_9, .int .u32 a1_10], .agg #[.int .i64 a2_0, .int .i64 a2_1, .int .i64 a2_2]] W fun e W' => e = .returned (.bool true) ∧ Below W.heap.size W W' := by
  have HD := Aside0.mk hnx
  clear hnx
  have K0 := Aside0.mk (show (((W.alloc (.cells #[.int .i64 a0_0, .int .i64 a0_1] 65)).alloc (.cells #[.int .i64 a1_0, .int .i64 a1_1, .int .i64 a1_2, .int .i64 a1_3, .int .i64 a1_4, .int .u32 a1_5, .int .i64 a1_6, .bool false, .bool true, .int .i64 a1_9, .int .u32 a1_10] 67)).alloc (.cells #[.int .i64 a2_0, .int .i64 a2_1, .int .i64 a2_2] 68)).heap[W.heap.size]? = some (.cells #[.int .i64 a0_0, .int .i64 a0_1] 65 (0, 0)) from heap_old (heap_old (heap_new _ _)))
  have K1 := Aside0.mk (show (((W.alloc (.cells #[.int .i64 a0_0, .int .i64 a0_1] 65)).alloc (.cells #[.int .i64 a1_0, .int .i64 a1_1, .int .i64 a1_2, .int .i64 a1_3, .int .i64 a1_4, .int .u32 a1_5, .int .i64 a1_6, .bool false, .bool true, .int .i64 a1_9, .int .u32 a1_10] 67)).alloc (.cells #[.int .i64 a2_0, .int .i64 a2_1, .int .i64 a2_2] 68)).heap[W.heap.size + 1]? = some (.cells #[.int .i64 a1_0, .int .i64 a1_1, .int .i64 a1_2, .int .i64 a1_3, .int .i64 a1_4, .int .u32 a1_5, .int .i64 a1_6, .bool false, .bool true, .int .i64 a1_9, .int .u32 a1_10] 67 (0, 0)) from heap_old (heap_new' _ (by simp)))
  have KB := Aside0.mk (show Below W.heap.size W (((W.alloc (.cells #[.int .i64 a0_0, .int .i64 a0_1] 65)).alloc (.cells #[.int .i64 a1_0, .int .i64 a1_1, .int .i64 a1_2, .int .i64 a1_3, .int .i64 a1_4, .int .u32 a1_5, .int .i64 a1_6, .bool false, .bool true, .int .i64 a1_9, .int .u32 a1_10] 67)).alloc (.cells #[.int .i64 a2_0, .int .i64 a2_1, .int .i64 a2_2] 68)) from ((((Below.refl _ _).alloc (Nat.le_refl _) _).alloc (by simp) _).alloc (by simp <;> omega) _))
  go_enter Try.func11, Try.ntmps11
  go_wp2_with (first | (go_at_call 43; refine (cablewayref03_Clamp.calls _ _ _ (refClamp_eq _)).mono ?_; rintro e w' ⟨rfl, ⟨nd, rfl⟩⟩))
  go_quiet (fail)
  go_wp2_with (first
    | (go_at_call 44; refine (cablewayref03_After.calls _ _ _ _ (refAfter_eq _ _)).mono ?_; rintro e w' ⟨rfl, ⟨nd2, rfl⟩⟩)
    | (go_at_call 43; refine (cablewayref03_Clamp.calls _ _ _ (refClamp_eq _)).mono ?_; rintro e w' ⟨rfl, ⟨nd3, rfl⟩⟩)
    | (go_at_call 45; refine (cablewaylaw18_awake.calls 20 _ _ hedge_awake).mono ?_; rintro e w3 ⟨rfl, hb3⟩; have L3 : W.heap.size + 2 < w3.heap.size := Nat.lt_of_lt_of_le (by simp <;> omega) hb3.size; have C0 := cell_blk ((hb3.block W.heap.size (by simp <;> omega)).trans K0.out); have C1 := cell_blk ((hb3.block (W.heap.size + 1) (by simp <;> omega)).trans K1.out); have q3 := hb3.mono (B' := W.heap.size) (by simp <;> omega); have B3 := Aside0.mk (carry KB.out q3 rfl rfl rfl rfl); clear q3)
    | (go_at_call 46; refine (hedge_Most.calls _ _ _ _ _ _ _ _ _ _ _ _ _ _ _ HMo).mono ?_; rintro e w4 ⟨rfl, hb4⟩
       have B4 := Aside0.mk (B3.out.trans (hb4.mono (by omega)))
       have L4 : W.heap.size + 2 < w4.heap.size := Nat.lt_of_lt_of_le L3 hb4.size
       have C2 := fun i => (hb4.cell (p := ⟨W.heap.size, i, none⟩) (by show W.heap.size < w3.heap.size; omega)).trans (C0 i); have C3 := fun i => (hb4.cell (p := ⟨W.heap.size + 1, i, none⟩) (by show W.heap.size + 1 < w3.heap.size; omega)).trans (C1 i))
    | (go_at_call 47; refine (hedge_Next.calls 5 _ _ _ _ _ _ _ _ _ _ _ _ _ _ _ _ _ _ HN).mono ?_; rintro e w5 ⟨rfl, hb5⟩
       have B5 := B4.out.trans (hb5.mono (by omega))))
  all_goals go_ret
  all_goals refine ⟨?_, B5⟩
  all_goals show Ending.returned (.bool _) = _
  all_goals congr 2
  all_goals rw [beq_iff_eq, HD.out]
  all_goals first | (rw [if_pos (by omega)]) | (rw [if_neg (by omega)])

set_option maxHeartbeats 4000000 in
set_option maxRecDepth 100000 in
theorem core_ffz (a0_0 a0_1 a1_0 a1_1 a1_2 a1_3 a1_4 a1_5 a1_6 : Int) (a1_8 : Bool) (a1_9 a1_10 a2_0 a2_1 a2_2 x y nx : Int) (W : World) (HZ1 : (cl a0_1 == 0) = true)
    (HX : (if a0_0 < 0 then 0 else a0_0) = x) (HY : (if 14 < x then 14 else x) = y) (HMo : hedge_Most.f a0_0 a0_1 a1_0 a1_1 a1_2 a1_3 a1_4 a1_5 a1_6 false false a1_9 a1_10 = some 0)
    (HN : hedge_Next.f 5 a0_0 a0_1 a1_0 a1_1 a1_2 a1_3 a1_4 a1_5 a1_6 false false a1_9 a1_10 a2_0 a2_1 a2_2 = some nx)
    (hnx : nx = if a2_0 < 0 ∨ a2_0 ≥ 0 ∨ af a2_1 a0_1 ≥ cl a2_2 then 1099511627776 else af a2_1 a0_1) :
    Calls Try.prog 11 #[.agg #[.int .i64 a0_0, .int .i64 a0_1], .agg #[.int .i64 a1_0, .int .i64 a1_1, .int .i64 a1_2, .int .i64 a1_3, .int .i64 a1_4, .int .u32 a1_5, .int .i64 a1_6, .bool false, .bool false, .int .i64 a1_9, .int .u32 a1_10], .agg #[.int .i64 a2_0, .int .i64 a2_1, .int .i64 a2_2]] W fun e W' => e = .returned (.bool true) ∧ Below W.heap.size W W' := by
  have HD := Aside0.mk hnx
  clear hnx
  have K0 := Aside0.mk (show (((W.alloc (.cells #[.int .i64 a0_0, .int .i64 a0_1] 65)).alloc (.cells #[.int .i64 a1_0, .int .i64 a1_1, .int .i64 a1_2, .int .i64 a1_3, .int .i64 a1_4, .int .u32 a1_5, .int .i64 a1_6, .bool false, .bool false, .int .i64 a1_9, .int .u32 a1_10] 67)).alloc (.cells #[.int .i64 a2_0, .int .i64 a2_1, .int .i64 a2_2] 68)).heap[W.heap.size]? = some (.cells #[.int .i64 a0_0, .int .i64 a0_1] 65 (0, 0)) from heap_old (heap_old (heap_new _ _)))
  have K1 := Aside0.mk (show (((W.alloc (.cells #[.int .i64 a0_0, .int .i64 a0_1] 65)).alloc (.cells #[.int .i64 a1_0, .int .i64 a1_1, .int .i64 a1_2, .int .i64 a1_3, .int .i64 a1_4, .int .u32 a1_5, .int .i64 a1_6, .bool false, .bool false, .int .i64 a1_9, .int .u32 a1_10] 67)).alloc (.cells #[.int .i64 a2_0, .int .i64 a2_1, .int .i64 a2_2] 68)).heap[W.heap.size + 1]? = some (.cells #[.int .i64 a1_0, .int .i64 a1_1, .int .i64 a1_2, .int .i64 a1_3, .int .i64 a1_4, .int .u32 a1_5, .int .i64 a1_6, .bool false, .bool false, .int .i64 a1_9, .int .u32 a1_10] 67 (0, 0)) from heap_old (heap_new' _ (by simp)))
  have KB := Aside0.mk (show Below W.heap.size W (((W.alloc (.cells #[.int .i64 a0_0, .int .i64 a0_1] 65)).alloc (.cells #[.int .i64 a1_0, .int .i64 a1_1, .int .i64 a1_2, .int .i64 a1_3, .int .i64 a1_4, .int .u32 a1_5, .int .i64 a1_6, .bool false, .bool false, .int .i64 a1_9, .int .u32 a1_10] 67)).alloc (.cells #[.int .i64 a2_0, .int .i64 a2_1, .int .i64 a2_2] 68)) from ((((Below.refl _ _).alloc (Nat.le_refl _) _).alloc (by simp) _).alloc (by simp <;> omega) _))
  go_enter Try.func11, Try.ntmps11
  go_wp2_with (first | (go_at_call 43; refine (cablewayref03_Clamp.calls _ _ _ (refClamp_eq _)).mono ?_; rintro e w' ⟨rfl, ⟨nd, rfl⟩⟩))
  go_quiet (fail)
  go_wp2_with (first
    | (go_at_call 44; refine (cablewayref03_After.calls _ _ _ _ (refAfter_eq _ _)).mono ?_; rintro e w' ⟨rfl, ⟨nd2, rfl⟩⟩)
    | (go_at_call 43; refine (cablewayref03_Clamp.calls _ _ _ (refClamp_eq _)).mono ?_; rintro e w' ⟨rfl, ⟨nd3, rfl⟩⟩)
    | (go_at_call 45; refine (cablewaylaw18_awake.calls 20 _ _ hedge_awake).mono ?_; rintro e w3 ⟨rfl, hb3⟩; have L3 : W.heap.size + 2 < w3.heap.size := Nat.lt_of_lt_of_le (by simp <;> omega) hb3.size; have C0 := cell_blk ((hb3.block W.heap.size (by simp <;> omega)).trans K0.out); have C1 := cell_blk ((hb3.block (W.heap.size + 1) (by simp <;> omega)).trans K1.out); have q3 := hb3.mono (B' := W.heap.size) (by simp <;> omega); have B3 := Aside0.mk (carry KB.out q3 rfl rfl rfl rfl); clear q3)
    | (go_at_call 46; refine (hedge_Most.calls _ _ _ _ _ _ _ _ _ _ _ _ _ _ _ HMo).mono ?_; rintro e w4 ⟨rfl, hb4⟩
       have B4 := Aside0.mk (B3.out.trans (hb4.mono (by omega)))
       have L4 : W.heap.size + 2 < w4.heap.size := Nat.lt_of_lt_of_le L3 hb4.size
       have C2 := fun i => (hb4.cell (p := ⟨W.heap.size, i, none⟩) (by show W.heap.size < w3.heap.size; omega)).trans (C0 i); have C3 := fun i => (hb4.cell (p := ⟨W.heap.size + 1, i, none⟩) (by show W.heap.size + 1 < w3.heap.size; omega)).trans (C1 i))
    | (go_at_call 47; refine (hedge_Next.calls 5 _ _ _ _ _ _ _ _ _ _ _ _ _ _ _ _ _ _ HN).mono ?_; rintro e w5 ⟨rfl, hb5⟩
       have B5 := B4.out.trans (hb5.mono (by omega))))
  all_goals go_ret
  all_goals refine ⟨?_, B5⟩
  all_goals show Ending.returned (.bool _) = _
  all_goals congr 2
  all_goals rw [beq_iff_eq, HD.out]
  all_goals first | (rw [if_pos (by omega)]) | (rw [if_neg (by omega)])

set_option maxHeartbeats 4000000 in
set_option maxRecDepth 100000 in
theorem core_ffn (a0_0 a0_1 a1_0 a1_1 a1_2 a1_3 a1_4 a1_5 a1_6 : Int) (a1_8 : Bool) (a1_9 a1_10 a2_0 a2_1 a2_2 x y nx : Int) (W : World) (HZ1 : (cl a0_1 == 0) = false)
    (HX : (if a0_0 < 0 then 0 else a0_0) = x) (HY : (if 14 < x then 14 else x) = y) (HMo : hedge_Most.f a0_0 a0_1 a1_0 a1_1 a1_2 a1_3 a1_4 a1_5 a1_6 false false a1_9 a1_10 = some y)
    (HN : hedge_Next.f 5 a0_0 a0_1 a1_0 a1_1 a1_2 a1_3 a1_4 a1_5 a1_6 false false a1_9 a1_10 a2_0 a2_1 a2_2 = some nx)
    (hnx : nx = if a2_0 < 0 ∨ a2_0 ≥ y ∨ af a2_1 a0_1 ≥ cl a2_2 then 1099511627776 else af a2_1 a0_1) :
    Calls Try.prog 11 #[.agg #[.int .i64 a0_0, .int .i64 a0_1], .agg #[.int .i64 a1_0, .int .i64 a1_1, .int .i64 a1_2, .int .i64 a1_3, .int .i64 a1_4, .int .u32 a1_5, .int .i64 a1_6, .bool false, .bool false, .int .i64 a1_9, .int .u32 a1_10], .agg #[.int .i64 a2_0, .int .i64 a2_1, .int .i64 a2_2]] W fun e W' => e = .returned (.bool true) ∧ Below W.heap.size W W' := by
  have HD := Aside0.mk hnx
  clear hnx
  have K0 := Aside0.mk (show (((W.alloc (.cells #[.int .i64 a0_0, .int .i64 a0_1] 65)).alloc (.cells #[.int .i64 a1_0, .int .i64 a1_1, .int .i64 a1_2, .int .i64 a1_3, .int .i64 a1_4, .int .u32 a1_5, .int .i64 a1_6, .bool false, .bool false, .int .i64 a1_9, .int .u32 a1_10] 67)).alloc (.cells #[.int .i64 a2_0, .int .i64 a2_1, .int .i64 a2_2] 68)).heap[W.heap.size]? = some (.cells #[.int .i64 a0_0, .int .i64 a0_1] 65 (0, 0)) from heap_old (heap_old (heap_new _ _)))
  have K1 := Aside0.mk (show (((W.alloc (.cells #[.int .i64 a0_0, .int .i64 a0_1] 65)).alloc (.cells #[.int .i64 a1_0, .int .i64 a1_1, .int .i64 a1_2, .int .i64 a1_3, .int .i64 a1_4, .int .u32 a1_5, .int .i64 a1_6, .bool false, .bool false, .int .i64 a1_9, .int .u32 a1_10] 67)).alloc (.cells #[.int .i64 a2_0, .int .i64 a2_1, .int .i64 a2_2] 68)).heap[W.heap.size + 1]? = some (.cells #[.int .i64 a1_0, .int .i64 a1_1, .int .i64 a1_2, .int .i64 a1_3, .int .i64 a1_4, .int .u32 a1_5, .int .i64 a1_6, .bool false, .bool false, .int .i64 a1_9, .int .u32 a1_10] 67 (0, 0)) from heap_old (heap_new' _ (by simp)))
  have KB := Aside0.mk (show Below W.heap.size W (((W.alloc (.cells #[.int .i64 a0_0, .int .i64 a0_1] 65)).alloc (.cells #[.int .i64 a1_0, .int .i64 a1_1, .int .i64 a1_2, .int .i64 a1_3, .int .i64 a1_4, .int .u32 a1_5, .int .i64 a1_6, .bool false, .bool false, .int .i64 a1_9, .int .u32 a1_10] 67)).alloc (.cells #[.int .i64 a2_0, .int .i64 a2_1, .int .i64 a2_2] 68)) from ((((Below.refl _ _).alloc (Nat.le_refl _) _).alloc (by simp) _).alloc (by simp <;> omega) _))
  go_enter Try.func11, Try.ntmps11
  go_wp2_with (first | (go_at_call 43; refine (cablewayref03_Clamp.calls _ _ _ (refClamp_eq _)).mono ?_; rintro e w' ⟨rfl, ⟨nd, rfl⟩⟩))
  go_quiet (fail)
  go_wp2_with (first
    | (go_at_call 44; refine (cablewayref03_After.calls _ _ _ _ (refAfter_eq _ _)).mono ?_; rintro e w' ⟨rfl, ⟨nd2, rfl⟩⟩)
    | (go_at_call 43; refine (cablewayref03_Clamp.calls _ _ _ (refClamp_eq _)).mono ?_; rintro e w' ⟨rfl, ⟨nd3, rfl⟩⟩)
    | (go_at_call 45; refine (cablewaylaw18_awake.calls 20 _ _ hedge_awake).mono ?_; rintro e w3 ⟨rfl, hb3⟩; have L3 : W.heap.size + 2 < w3.heap.size := Nat.lt_of_lt_of_le (by simp <;> omega) hb3.size; have C0 := cell_blk ((hb3.block W.heap.size (by simp <;> omega)).trans K0.out); have C1 := cell_blk ((hb3.block (W.heap.size + 1) (by simp <;> omega)).trans K1.out); have q3 := hb3.mono (B' := W.heap.size) (by simp <;> omega); have B3 := Aside0.mk (carry KB.out q3 rfl rfl rfl rfl); clear q3)
    | (go_at_call 46; refine (hedge_Most.calls _ _ _ _ _ _ _ _ _ _ _ _ _ _ _ HMo).mono ?_; rintro e w4 ⟨rfl, hb4⟩
       have B4 := Aside0.mk (B3.out.trans (hb4.mono (by omega)))
       have L4 : W.heap.size + 2 < w4.heap.size := Nat.lt_of_lt_of_le L3 hb4.size
       have C2 := fun i => (hb4.cell (p := ⟨W.heap.size, i, none⟩) (by show W.heap.size < w3.heap.size; omega)).trans (C0 i); have C3 := fun i => (hb4.cell (p := ⟨W.heap.size + 1, i, none⟩) (by show W.heap.size + 1 < w3.heap.size; omega)).trans (C1 i))
    | (go_at_call 47; refine (hedge_Next.calls 5 _ _ _ _ _ _ _ _ _ _ _ _ _ _ _ _ _ _ HN).mono ?_; rintro e w5 ⟨rfl, hb5⟩
       have B5 := B4.out.trans (hb5.mono (by omega))))
  all_goals go_ret
  all_goals refine ⟨?_, B5⟩
  all_goals show Ending.returned (.bool _) = _
  all_goals congr 2
  all_goals rw [beq_iff_eq, HD.out]
  all_goals first | (rw [if_pos (by omega)]) | (rw [if_neg (by omega)])

theorem walk (a0_0 : Int) (a0_1 : Int) (a1_0 : Int) (a1_1 : Int) (a1_2 : Int) (a1_3 : Int) (a1_4 : Int) (a1_5 : Int) (a1_6 : Int) (a1_7 : Bool) (a1_8 : Bool) (a1_9 : Int) (a1_10 : Int) (a2_0 : Int) (a2_1 : Int) (a2_2 : Int) (W : World) (w0_0 : (Lit.int .i64 a0_0).wf = true) (w0_1 : (Lit.int .i64 a0_1).wf = true) (w1_0 : (Lit.int .i64 a1_0).wf = true) (w1_1 : (Lit.int .i64 a1_1).wf = true) (w1_2 : (Lit.int .i64 a1_2).wf = true) (w1_3 : (Lit.int .i64 a1_3).wf = true) (w1_4 : (Lit.int .i64 a1_4).wf = true) (w1_5 : (Lit.int .u32 a1_5).wf = true) (w1_6 : (Lit.int .i64 a1_6).wf = true) (w1_9 : (Lit.int .i64 a1_9).wf = true) (w1_10 : (Lit.int .u32 a1_10).wf = true) (w2_0 : (Lit.int .i64 a2_0).wf = true) (w2_1 : (Lit.int .i64 a2_1).wf = true) (w2_2 : (Lit.int .i64 a2_2).wf = true) :
    Calls Try.prog 11 #[.agg #[.int .i64 a0_0, .int .i64 a0_1], .agg #[.int .i64 a1_0, .int .i64 a1_1, .int .i64 a1_2, .int .i64 a1_3, .int .i64 a1_4, .int .u32 a1_5, .int .i64 a1_6, .bool a1_7, .bool a1_8, .int .i64 a1_9, .int .u32 a1_10], .agg #[.int .i64 a2_0, .int .i64 a2_1, .int .i64 a2_2]] W fun e W' => e = .returned (.bool true) ∧ Below W.heap.size W W' := by
  obtain ⟨x, hx⟩ : ∃ x, (if a0_0 < 0 then 0 else a0_0) = x := ⟨_, rfl⟩
  obtain ⟨y, hy⟩ : ∃ y, (if 14 < x then 14 else x) = y := ⟨_, rfl⟩
  have hm : y = mn (mx a0_0 0) 14 := by unfold mn mx; rw [hx, hy]
  have hM := most_eq a0_0 a0_1 a1_0 a1_1 a1_2 a1_3 a1_4 a1_5 a1_6 a1_7 a1_8 a1_9 a1_10
  have hN := next_eq a0_0 a0_1 a1_0 a1_1 a1_2 a1_3 a1_4 a1_5 a1_6 a1_7 a1_8 a1_9 a1_10 a2_0 a2_1 a2_2
  cases a1_7
  · cases a1_8
    · by_cases hz : cl a0_1 = 0
      · have e : most a0_0 a0_1 false false = 0 := by simp [most, hz]
        rw [e] at hM
        exact core_ffz a0_0 a0_1 a1_0 a1_1 a1_2 a1_3 a1_4 a1_5 a1_6 false a1_9 a1_10 a2_0 a2_1 a2_2 x y _ W (by simp [hz]) hx hy hM hN (by unfold next; rw [e])
      · have e : most a0_0 a0_1 false false = y := by simp [most, hz, hm]
        rw [e] at hM
        exact core_ffn a0_0 a0_1 a1_0 a1_1 a1_2 a1_3 a1_4 a1_5 a1_6 false a1_9 a1_10 a2_0 a2_1 a2_2 x y _ W (by simp [hz]) hx hy hM hN (by unfold next; rw [e])
    · have e : most a0_0 a0_1 false true = 0 := by simp [most]
      rw [e] at hM
      exact core_ft a0_0 a0_1 a1_0 a1_1 a1_2 a1_3 a1_4 a1_5 a1_6 true a1_9 a1_10 a2_0 a2_1 a2_2 x y _ W hx hy hM hN (by unfold next; rw [e])
  · have e : most a0_0 a0_1 true a1_8 = 0 := by simp [most]
    rw [e] at hM
    exact core_t a0_0 a0_1 a1_0 a1_1 a1_2 a1_3 a1_4 a1_5 a1_6 a1_8 a1_9 a1_10 a2_0 a2_1 a2_2 x y _ W hx hy hM hN (by unfold next; rw [e])
end Go.Proofs.Ytidefefaealheaa.walkHedgeNext
