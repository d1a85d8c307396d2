/- A slot's words: whether a turn goes on; a turn's begin and end. -/
import Derived.Test.YthonkcldddfpnaaDoorSlot
namespace Go.Proofs.YthonkcldddfpnaaDoor.Slot
open Go.RowKit Go.Proofs.YthonkcldddfpnaaDoor.PSlotWords Go.Proofs.YthonkcldddfpnaaDoorW.PrintWords Go.Proofs.YthonkcldddfpnaaDoorW.PrintLast Go.Proofs.YthonkcldddfpnaaDoorW.PrintMore Go.Proofs.YthonkcldddfpnaaDoor.Aid Go.Proofs.YthonkcldddfpnaaDoor.Quiet Go.Proofs.YthonkcldddfpnaaDoor.SlotF Go.Proofs.YthonkcldddfpnaaDoor.LaidSlot
set_option linter.unusedVariables false
attribute [local go_sem] max2_int min2_int max_two min_two

set_option maxHeartbeats 1000000 in
theorem live_on1 (x : Nat) (hx : x < 2 ^ 64) (g : Int) (w : World) (gl : Cells w) (h1 : (genN x : Int) = g) (h2 : stN x = 1) :
    Calls Tryd.prog 27 #[.int .u64 (x : Int), .int .i64 g] w fun r w' => r = .returned (.bool true) ∧ Below w.heap.size w w' := by
  have hz := Cells.size gl
  have GL := Aside0.mk gl
  have HB := Aside0.mk (Below.refl w.heap.size w)
  clear gl
  have d1 : ((genN x : Int) == g) = true := by rw [beq_iff_eq]; exact h1
  have d2 : ((stN x : Int) == 1) = true := by rw [beq_iff_eq, h2]; rfl
  clear h1 h2
  go_enter Tryd.func27, Tryd.ntmps27
  go_wp2_with (first | (go_at_call 25; refine (gen_calls x hx _ (Cells.below GL.out HB.out hz)).mono ?_; rintro e wn ⟨rfl, hb⟩; have HB := Aside0.mk (HB.out.trans (hb.mono HB.out.size)); clear hb) | (go_at_call 26; refine (st_calls x hx _ (Cells.below GL.out HB.out hz)).mono ?_; rintro e wn ⟨rfl, hb⟩; have HB := Aside0.mk (HB.out.trans (hb.mono HB.out.size)); clear hb))
  go_ret
  exact ⟨rfl, HB.out⟩
set_option maxHeartbeats 1000000 in
theorem live_on2 (x : Nat) (hx : x < 2 ^ 64) (g : Int) (w : World) (gl : Cells w) (h1 : (genN x : Int) = g) (h2 : stN x = 2) :
    Calls Tryd.prog 27 #[.int .u64 (x : Int), .int .i64 g] w fun r w' => r = .returned (.bool true) ∧ Below w.heap.size w w' := by
  have hz := Cells.size gl
  have GL := Aside0.mk gl
  have HB := Aside0.mk (Below.refl w.heap.size w)
  clear gl
  have d1 : ((genN x : Int) == g) = true := by rw [beq_iff_eq]; exact h1
  have d2 : ((stN x : Int) == 1) = false := by rw [h2]; rfl
  have d3 : ((stN x : Int) == 2) = true := by rw [beq_iff_eq, h2]; rfl
  clear h1 h2
  go_enter Tryd.func27, Tryd.ntmps27
  go_wp2_with (first | (go_at_call 25; refine (gen_calls x hx _ (Cells.below GL.out HB.out hz)).mono ?_; rintro e wn ⟨rfl, hb⟩; have HB := Aside0.mk (HB.out.trans (hb.mono HB.out.size)); clear hb) | (go_at_call 26; refine (st_calls x hx _ (Cells.below GL.out HB.out hz)).mono ?_; rintro e wn ⟨rfl, hb⟩; have HB := Aside0.mk (HB.out.trans (hb.mono HB.out.size)); clear hb))
  go_ret
  exact ⟨rfl, HB.out⟩
set_option maxHeartbeats 1000000 in
theorem live_gen (x : Nat) (hx : x < 2 ^ 64) (g : Int) (w : World) (gl : Cells w) (h1 : (genN x : Int) ≠ g) :
    Calls Tryd.prog 27 #[.int .u64 (x : Int), .int .i64 g] w fun r w' => r = .returned (.bool false) ∧ Below w.heap.size w w' := by
  have hz := Cells.size gl
  have GL := Aside0.mk gl
  have HB := Aside0.mk (Below.refl w.heap.size w)
  clear gl
  have d1 : ((genN x : Int) == g) = false := by rw [beq_eq_false_iff_ne]; exact h1
  clear h1
  go_enter Tryd.func27, Tryd.ntmps27
  go_wp2_with (first | (go_at_call 25; refine (gen_calls x hx _ (Cells.below GL.out HB.out hz)).mono ?_; rintro e wn ⟨rfl, hb⟩; have HB := Aside0.mk (HB.out.trans (hb.mono HB.out.size)); clear hb) | (go_at_call 26; refine (st_calls x hx _ (Cells.below GL.out HB.out hz)).mono ?_; rintro e wn ⟨rfl, hb⟩; have HB := Aside0.mk (HB.out.trans (hb.mono HB.out.size)); clear hb))
  go_ret
  exact ⟨rfl, HB.out⟩
set_option maxHeartbeats 1000000 in
theorem live_st (x : Nat) (hx : x < 2 ^ 64) (g : Int) (w : World) (gl : Cells w) (h2 : stN x ≠ 1) (h3 : stN x ≠ 2) (h1 : (genN x : Int) = g) :
    Calls Tryd.prog 27 #[.int .u64 (x : Int), .int .i64 g] w fun r w' => r = .returned (.bool false) ∧ Below w.heap.size w w' := by
  have hz := Cells.size gl
  have GL := Aside0.mk gl
  have HB := Aside0.mk (Below.refl w.heap.size w)
  clear gl
  have d1 : ((genN x : Int) == g) = true := by rw [beq_iff_eq]; exact h1
  have d2 : ((stN x : Int) == 1) = false := by rw [beq_eq_false_iff_ne]; omega
  have d3 : ((stN x : Int) == 2) = false := by rw [beq_eq_false_iff_ne]; omega
  clear h1 h2 h3
  go_enter Tryd.func27, Tryd.ntmps27
  go_wp2_with (first | (go_at_call 25; refine (gen_calls x hx _ (Cells.below GL.out HB.out hz)).mono ?_; rintro e wn ⟨rfl, hb⟩; have HB := Aside0.mk (HB.out.trans (hb.mono HB.out.size)); clear hb) | (go_at_call 26; refine (st_calls x hx _ (Cells.below GL.out HB.out hz)).mono ?_; rintro e wn ⟨rfl, hb⟩; have HB := Aside0.mk (HB.out.trans (hb.mono HB.out.size)); clear hb))
  go_ret
  exact ⟨rfl, HB.out⟩
/-- Whether a word is of a turn that goes on. -/
def liveB (x : Nat) (g : Int) : Bool := decide ((genN x : Int) = g ∧ (stN x = 1 ∨ stN x = 2))
theorem live_calls (x : Nat) (hx : x < 2 ^ 64) (g : Int) (w : World) (gl : Cells w) : Calls Tryd.prog 27 #[.int .u64 (x : Int), .int .i64 g] w fun r w' => r = .returned (.bool (liveB x g)) ∧ Below w.heap.size w w' := by
  by_cases h1 : (genN x : Int) = g
  · by_cases h2 : stN x = 1
    · rw [show liveB x g = true from decide_eq_true ⟨h1, Or.inl h2⟩]; exact live_on1 x hx g w gl h1 h2
    · by_cases h3 : stN x = 2
      · rw [show liveB x g = true from decide_eq_true ⟨h1, Or.inr h3⟩]; exact live_on2 x hx g w gl h1 h3
      · rw [show liveB x g = false from decide_eq_false (by rintro ⟨_, h | h⟩ <;> contradiction)]; exact live_st x hx g w gl h2 h3 h1
  · rw [show liveB x g = false from decide_eq_false (by rintro ⟨h, _⟩; contradiction)]; exact live_gen x hx g w gl h1

set_option maxHeartbeats 1000000 in
theorem open_pending (x : Nat) (hx : x < 2 ^ 64) (m k : Int) (w : World) (gl : Cells w) (hm : mn m 16777215 = k) (h1 : stN x = 0) (h2 : (genN x : Int) < k) :
    Calls Tryd.prog 28 #[.int .u64 (x : Int), .bool false, .int .i64 m] w fun r w' => r = .returned (.tuple #[.int .u64 (wordN (genN x + 1) 1 : Int), .bool true]) ∧ Below w.heap.size w w' := by
  have hz := Cells.size gl
  have GL := Aside0.mk gl
  have HB := Aside0.mk (Below.refl w.heap.size w)
  clear gl
  have hm' : (if 16777215 < m then 16777215 else m) = k := hm
  have hgl := genN_lt x
  have d1 : ((stN x : Int) == 0) = true := by rw [beq_iff_eq, h1]; rfl
  have d1' : ((stN x : Int) != 0) = false := by rw [h1]; rfl
  have d2 : decide (k ≤ (genN x : Int)) = false := decide_eq_false (by omega)
  clear h1 h2 hm
  go_enter Tryd.func28, Tryd.ntmps28
  go_wp2_with (first | (go_at_call 25; refine (gen_calls x hx _ (Cells.below GL.out HB.out hz)).mono ?_; rintro e wn ⟨rfl, hb⟩; have HB := Aside0.mk (HB.out.trans (hb.mono HB.out.size)); clear hb) | (go_at_call 26; refine (st_calls x hx _ (Cells.below GL.out HB.out hz)).mono ?_; rintro e wn ⟨rfl, hb⟩; have HB := Aside0.mk (HB.out.trans (hb.mono HB.out.size)); clear hb) | (go_at_call 23; refine (word_calls ((genN x : Int) + 1) 1 (genN x + 1) 1 _ (Cells.below GL.out HB.out hz) (by first | rfl | (unfold mx; split <;> omega)) (by kernel_rfl) (by omega) (by omega)).mono ?_; rintro e wn ⟨rfl, hb⟩; have HB := Aside0.mk (HB.out.trans (hb.mono HB.out.size)); clear hb))
  go_ret2
  exact ⟨rfl, HB.out⟩
set_option maxHeartbeats 1000000 in
theorem open_streams (x : Nat) (hx : x < 2 ^ 64) (m k : Int) (w : World) (gl : Cells w) (hm : mn m 16777215 = k) (h1 : stN x = 0) (h2 : (genN x : Int) < k) :
    Calls Tryd.prog 28 #[.int .u64 (x : Int), .bool true, .int .i64 m] w fun r w' => r = .returned (.tuple #[.int .u64 (wordN (genN x + 1) 2 : Int), .bool true]) ∧ Below w.heap.size w w' := by
  have hz := Cells.size gl
  have GL := Aside0.mk gl
  have HB := Aside0.mk (Below.refl w.heap.size w)
  clear gl
  have hm' : (if 16777215 < m then 16777215 else m) = k := hm
  have hgl := genN_lt x
  have d1 : ((stN x : Int) == 0) = true := by rw [beq_iff_eq, h1]; rfl
  have d1' : ((stN x : Int) != 0) = false := by rw [h1]; rfl
  have d2 : decide (k ≤ (genN x : Int)) = false := decide_eq_false (by omega)
  clear h1 h2 hm
  go_enter Tryd.func28, Tryd.ntmps28
  go_wp2_with (first | (go_at_call 25; refine (gen_calls x hx _ (Cells.below GL.out HB.out hz)).mono ?_; rintro e wn ⟨rfl, hb⟩; have HB := Aside0.mk (HB.out.trans (hb.mono HB.out.size)); clear hb) | (go_at_call 26; refine (st_calls x hx _ (Cells.below GL.out HB.out hz)).mono ?_; rintro e wn ⟨rfl, hb⟩; have HB := Aside0.mk (HB.out.trans (hb.mono HB.out.size)); clear hb) | (go_at_call 23; refine (word_calls ((genN x : Int) + 1) 2 (genN x + 1) 2 _ (Cells.below GL.out HB.out hz) (by first | rfl | (unfold mx; split <;> omega)) (by kernel_rfl) (by omega) (by omega)).mono ?_; rintro e wn ⟨rfl, hb⟩; have HB := Aside0.mk (HB.out.trans (hb.mono HB.out.size)); clear hb))
  go_ret2
  exact ⟨rfl, HB.out⟩
set_option maxHeartbeats 1000000 in
theorem open_not (x : Nat) (hx : x < 2 ^ 64) (m k : Int) (w : World) (gl : Cells w) (b : Bool) (h1 : stN x ≠ 0) :
    Calls Tryd.prog 28 #[.int .u64 (x : Int), .bool b, .int .i64 m] w fun r w' => r = .returned (.tuple #[.int .u64 (x : Int), .bool false]) ∧ Below w.heap.size w w' := by
  have hz := Cells.size gl
  have GL := Aside0.mk gl
  have HB := Aside0.mk (Below.refl w.heap.size w)
  clear gl
  have d1' : ((stN x : Int) != 0) = true := by rw [bne_iff_ne]; omega
  clear h1
  go_enter Tryd.func28, Tryd.ntmps28
  go_wp2_with (first | (go_at_call 25; refine (gen_calls x hx _ (Cells.below GL.out HB.out hz)).mono ?_; rintro e wn ⟨rfl, hb⟩; have HB := Aside0.mk (HB.out.trans (hb.mono HB.out.size)); clear hb) | (go_at_call 26; refine (st_calls x hx _ (Cells.below GL.out HB.out hz)).mono ?_; rintro e wn ⟨rfl, hb⟩; have HB := Aside0.mk (HB.out.trans (hb.mono HB.out.size)); clear hb))
  go_ret2
  exact ⟨rfl, HB.out⟩
set_option maxHeartbeats 1000000 in
theorem open_most (x : Nat) (hx : x < 2 ^ 64) (m k : Int) (w : World) (gl : Cells w) (b : Bool) (hm : mn m 16777215 = k) (h1 : stN x = 0) (h2 : k ≤ (genN x : Int)) :
    Calls Tryd.prog 28 #[.int .u64 (x : Int), .bool b, .int .i64 m] w fun r w' => r = .returned (.tuple #[.int .u64 (x : Int), .bool false]) ∧ Below w.heap.size w w' := by
  have hz := Cells.size gl
  have GL := Aside0.mk gl
  have HB := Aside0.mk (Below.refl w.heap.size w)
  clear gl
  have hm' : (if 16777215 < m then 16777215 else m) = k := hm
  have d1' : ((stN x : Int) != 0) = false := by rw [h1]; rfl
  have d2 : decide (k ≤ (genN x : Int)) = true := decide_eq_true h2
  clear h1 h2 hm
  go_enter Tryd.func28, Tryd.ntmps28
  go_wp2_with (first | (go_at_call 25; refine (gen_calls x hx _ (Cells.below GL.out HB.out hz)).mono ?_; rintro e wn ⟨rfl, hb⟩; have HB := Aside0.mk (HB.out.trans (hb.mono HB.out.size)); clear hb) | (go_at_call 26; refine (st_calls x hx _ (Cells.below GL.out HB.out hz)).mono ?_; rintro e wn ⟨rfl, hb⟩; have HB := Aside0.mk (HB.out.trans (hb.mono HB.out.size)); clear hb))
  go_ret2
  exact ⟨rfl, HB.out⟩
set_option maxHeartbeats 1000000 in
theorem close_not (x : Nat) (hx : x < 2 ^ 64) (m k : Int) (w : World) (gl : Cells w) (h1 : stN x ≠ 1) (h2 : stN x ≠ 2) :
    Calls Tryd.prog 29 #[.int .u64 (x : Int), .int .i64 m] w fun r w' => r = .returned (.int .u64 (x : Int)) ∧ Below w.heap.size w w' := by
  have hz := Cells.size gl
  have GL := Aside0.mk gl
  have HB := Aside0.mk (Below.refl w.heap.size w)
  clear gl
  have d1 : liveB x (genN x : Int) = false := decide_eq_false (by omega)
  clear h1 h2
  go_enter Tryd.func29, Tryd.ntmps29
  go_wp2_with (first | (go_at_call 25; refine (gen_calls x hx _ (Cells.below GL.out HB.out hz)).mono ?_; rintro e wn ⟨rfl, hb⟩; have HB := Aside0.mk (HB.out.trans (hb.mono HB.out.size)); clear hb) | (go_at_call 26; refine (st_calls x hx _ (Cells.below GL.out HB.out hz)).mono ?_; rintro e wn ⟨rfl, hb⟩; have HB := Aside0.mk (HB.out.trans (hb.mono HB.out.size)); clear hb) | (go_at_call 27; refine (live_calls x hx _ _ (Cells.below GL.out HB.out hz)).mono ?_; rintro e wn ⟨rfl, hb⟩; have HB := Aside0.mk (HB.out.trans (hb.mono HB.out.size)); clear hb))
  go_ret
  exact ⟨rfl, HB.out⟩
set_option maxHeartbeats 1000000 in
theorem close_last (x : Nat) (hx : x < 2 ^ 64) (m k : Int) (w : World) (gl : Cells w) (hm : mn m 16777215 = k) (h1 : stN x = 1 ∨ stN x = 2) (h2 : k ≤ (genN x : Int)) :
    Calls Tryd.prog 29 #[.int .u64 (x : Int), .int .i64 m] w fun r w' => r = .returned (.int .u64 (wordN (genN x) 3 : Int)) ∧ Below w.heap.size w w' := by
  have hz := Cells.size gl
  have GL := Aside0.mk gl
  have HB := Aside0.mk (Below.refl w.heap.size w)
  clear gl
  have hm' : (if 16777215 < m then 16777215 else m) = k := hm
  have hgl := genN_lt x
  have d1 : liveB x (genN x : Int) = true := decide_eq_true ⟨rfl, h1⟩
  have d2 : decide (k ≤ (genN x : Int)) = true := decide_eq_true h2
  clear h1 h2 hm
  go_enter Tryd.func29, Tryd.ntmps29
  go_wp2_with (first | (go_at_call 25; refine (gen_calls x hx _ (Cells.below GL.out HB.out hz)).mono ?_; rintro e wn ⟨rfl, hb⟩; have HB := Aside0.mk (HB.out.trans (hb.mono HB.out.size)); clear hb) | (go_at_call 26; refine (st_calls x hx _ (Cells.below GL.out HB.out hz)).mono ?_; rintro e wn ⟨rfl, hb⟩; have HB := Aside0.mk (HB.out.trans (hb.mono HB.out.size)); clear hb) | (go_at_call 27; refine (live_calls x hx _ _ (Cells.below GL.out HB.out hz)).mono ?_; rintro e wn ⟨rfl, hb⟩; have HB := Aside0.mk (HB.out.trans (hb.mono HB.out.size)); clear hb) | (go_at_call 23; refine (word_calls (genN x : Int) 3 (genN x) 3 _ (Cells.below GL.out HB.out hz) (by first | rfl | (unfold mx; split <;> omega)) (by kernel_rfl) (by omega) (by omega)).mono ?_; rintro e wn ⟨rfl, hb⟩; have HB := Aside0.mk (HB.out.trans (hb.mono HB.out.size)); clear hb))
  go_ret
  exact ⟨rfl, HB.out⟩
set_option maxHeartbeats 1000000 in
theorem close_free (x : Nat) (hx : x < 2 ^ 64) (m k : Int) (w : World) (gl : Cells w) (hm : mn m 16777215 = k) (h1 : stN x = 1 ∨ stN x = 2) (h2 : (genN x : Int) < k) :
    Calls Tryd.prog 29 #[.int .u64 (x : Int), .int .i64 m] w fun r w' => r = .returned (.int .u64 (wordN (genN x) 0 : Int)) ∧ Below w.heap.size w w' := by
  have hz := Cells.size gl
  have GL := Aside0.mk gl
  have HB := Aside0.mk (Below.refl w.heap.size w)
  clear gl
  have hm' : (if 16777215 < m then 16777215 else m) = k := hm
  have hgl := genN_lt x
  have d1 : liveB x (genN x : Int) = true := decide_eq_true ⟨rfl, h1⟩
  have d2 : decide (k ≤ (genN x : Int)) = false := decide_eq_false (by omega)
  clear h1 h2 hm
  go_enter Tryd.func29, Tryd.ntmps29
  go_wp2_with (first | (go_at_call 25; refine (gen_calls x hx _ (Cells.below GL.out HB.out hz)).mono ?_; rintro e wn ⟨rfl, hb⟩; have HB := Aside0.mk (HB.out.trans (hb.mono HB.out.size)); clear hb) | (go_at_call 26; refine (st_calls x hx _ (Cells.below GL.out HB.out hz)).mono ?_; rintro e wn ⟨rfl, hb⟩; have HB := Aside0.mk (HB.out.trans (hb.mono HB.out.size)); clear hb) | (go_at_call 27; refine (live_calls x hx _ _ (Cells.below GL.out HB.out hz)).mono ?_; rintro e wn ⟨rfl, hb⟩; have HB := Aside0.mk (HB.out.trans (hb.mono HB.out.size)); clear hb) | (go_at_call 23; refine (word_calls (genN x : Int) 0 (genN x) 0 _ (Cells.below GL.out HB.out hz) (by first | rfl | (unfold mx; split <;> omega)) (by kernel_rfl) (by omega) (by omega)).mono ?_; rintro e wn ⟨rfl, hb⟩; have HB := Aside0.mk (HB.out.trans (hb.mono HB.out.size)); clear hb))
  go_ret
  exact ⟨rfl, HB.out⟩
end Go.Proofs.YthonkcldddfpnaaDoor.Slot
