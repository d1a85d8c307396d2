/- A frame there and back; a frame's own small trial. -/
import Derived.Test.YthonkcldddfpnaaDoorFrameP
import Derived.Test.YthonkcldddfpnaaDoorFrameQ
namespace Go.Proofs.YthonkcldddfpnaaDoor.FrameA
open Go.RowKit Go.Proofs.YthonkcldddfpnaaDoor.PFrameGets Go.Proofs.YthonkcldddfpnaaDoorW.PrintWords Go.Proofs.YthonkcldddfpnaaDoorW.PrintLast Go.Proofs.YthonkcldddfpnaaDoorW.PrintMore Go.Proofs.YthonkcldddfpnaaDoor.Aid Go.Proofs.YthonkcldddfpnaaDoor.Quiet Go.Proofs.YthonkcldddfpnaaDoor.Blk Go.Proofs.YthonkcldddfpnaaDoor.State Go.Proofs.YthonkcldddfpnaaDoor.Vals Go.Proofs.YthonkcldddfpnaaDoor.FieldMath Go.Proofs.YthonkcldddfpnaaDoor.FrameF Go.Proofs.YthonkcldddfpnaaDoor.LaidFrame Go.Proofs.YthonkcldddfpnaaDoor.FrameQ
set_option linter.unusedVariables false
set_option linter.unusedSimpArgs false
attribute [local go_sem] max2_int min2_int max_two min_two

theorem put_ok (k c v s g ca t q u : Nat) (b d : Bool) (hok : okF k c v s g t q = true) (hca : ca < 2 ^ 32) (hu : u < 2 ^ 32) (W : World) (gl : Cells W) :
    Calls Tryd.prog 14 #[.agg #[.int .i64 (k : Int), .int .i64 (c : Int), .int .i64 (v : Int), .int .i64 (s : Int), .int .i64 (g : Int), .int .u32 (ca : Int), .int .i64 (t : Int), .bool b, .bool d, .int .i64 (q : Int), .int .u32 (u : Int)]] W fun r w' => r = .returned (.tuple #[.agg #[.int .u64 (word0 k c v s g t b d : Int), .int .u64 ((ca + u * 4294967296 : Nat) : Int), .int .u64 (q : Int)], .bool true]) ∧ Below W.heap.size W w' := by
  have h0 := of_decide_eq_true hok
  have hb : ∀ b, frame_bit.f b = some (nB b : Int) := fun b => by cases b <;> rfl
  exact FrameP.put_core k c v s g ca t q u (nB b) (nB d) b d (hb b) (hb d) (by omega) (by omega) (by omega) (by omega) (by omega) hca (by omega) (by omega) hu _ _ _ _ _ _ _ _ rfl rfl rfl rfl rfl rfl rfl (chain hok) _ (putN_add ca 32 32 u (by decide) hca hu)
    (by rw [may_nat, hok]) W gl
theorem put_bad (k c v s g ca t q u : Nat) (b d : Bool) (hok : okF k c v s g t q = false) (W : World) :
    Calls Tryd.prog 14 #[.agg #[.int .i64 (k : Int), .int .i64 (c : Int), .int .i64 (v : Int), .int .i64 (s : Int), .int .i64 (g : Int), .int .u32 (ca : Int), .int .i64 (t : Int), .bool b, .bool d, .int .i64 (q : Int), .int .u32 (u : Int)]] W fun r w' => r = .returned (.tuple #[.agg #[.int .u64 0, .int .u64 0, .int .u64 0], .bool false]) ∧ Below W.heap.size W w' :=
  FrameP.put_none k c v s g ca t q u b d (by rw [may_nat, hok]) W
/-- Words that are a frame. -/
def isF (x0 x2 : Nat) : Bool := decide (x0 < 1125899906842624) && (decide (x2 < 65536) && okF (getN x0 0 4) (getN x0 4 4) (getN x0 8 4) (getN x0 12 8) (getN x0 26 24) (getN x0 20 4) (getN x2 0 16))
theorem get_any (x0 x1 x2 : Nat) (hx0 : x0 < 2 ^ 64) (hx1 : x1 < 2 ^ 64) (hx2 : x2 < 2 ^ 64) (W : World) (gl : Cells W) :
    Calls Tryd.prog 16 #[.agg #[.int .u64 (x0 : Int), .int .u64 (x1 : Int), .int .u64 (x2 : Int)]] W fun r w' => r = .returned (.tuple (if isF x0 x2 = false then #[.agg #[.int .i64 0, .int .i64 0, .int .i64 0, .int .i64 0, .int .i64 0, .int .u32 0, .int .i64 0, .bool false, .bool false, .int .i64 0, .int .u32 0], .int .i64 2] else #[.agg #[.int .i64 (getN x0 0 4 : Int), .int .i64 (getN x0 4 4 : Int), .int .i64 (getN x0 8 4 : Int), .int .i64 (getN x0 12 8 : Int), .int .i64 (getN x0 26 24 : Int), .int .u32 (getN x1 0 32 : Int), .int .i64 (getN x0 20 4 : Int), .bool ((getN x0 24 1 : Int) == 1), .bool ((getN x0 25 1 : Int) == 1), .int .i64 (getN x2 0 16 : Int), .int .u32 (getN x1 32 32 : Int)], .int .i64 0])) ∧ Below W.heap.size W w' := by
  refine (FrameG.get_core x0 x1 x2 hx0 hx1 hx2 _ _ _ _ _ _ _ _ _ _ _ rfl rfl rfl rfl rfl rfl rfl rfl rfl rfl rfl _ _ rfl rfl _ _ (rest8 x0 hx0) (rest1 x2 hx2) (!decide (x0 < 1125899906842624)) (!decide (x2 < 65536)) _ ?_ ?_ (may_nat _ _ _ _ _ _ _ _ _ _ _) W gl).mono ?_
  · rw [Bool.eq_iff_iff]; simp; omega
  · rw [Bool.eq_iff_iff]; simp; omega
  · rintro r w' ⟨hr, hb⟩
    refine ⟨?_, hb⟩
    rw [hr]
    congr 2
    unfold isF
    generalize decide (x0 < 1125899906842624) = A
    generalize decide (x2 < 65536) = B
    generalize okF (getN x0 0 4) (getN x0 4 4) (getN x0 8 4) (getN x0 12 8) (getN x0 26 24) (getN x0 20 4) (getN x2 0 16) = C
    cases A <;> cases B <;> cases C <;> rfl
set_option maxHeartbeats 8000000 in
set_option maxRecDepth 100000 in
theorem awake_calls (W : World) (gl : Cells W) : Calls Tryd.prog 17 #[] W fun r w' => r = .returned (.bool true) ∧ Below W.heap.size W w' := by
  have KP := Aside0.mk (show Calls Tryd.prog 14 #[.agg #[.int .i64 2, .int .i64 1, .int .i64 0, .int .i64 2, .int .i64 7, .int .u32 3, .int .i64 0, .bool false, .bool false, .int .i64 0, .int .u32 9]] W fun r w' => r = .returned (.tuple #[.agg #[.int .u64 469770258, .int .u64 38654705667, .int .u64 0], .bool true]) ∧ Below W.heap.size W w' by
    have h := put_ok 2 1 0 2 7 3 0 0 9 false false (by decide) (by decide) (by decide) W gl
    exact h)
  have GL := Aside0.mk gl
  have KG := Aside0.mk (fun w g => (show Calls Tryd.prog 16 #[.agg #[.int .u64 469770258, .int .u64 38654705667, .int .u64 0]] w fun r w' => r = .returned (.tuple #[.agg #[.int .i64 2, .int .i64 1, .int .i64 0, .int .i64 2, .int .i64 7, .int .u32 3, .int .i64 0, .bool false, .bool false, .int .i64 0, .int .u32 9], .int .i64 0]) ∧ Below w.heap.size w w' by
    have h := get_any 469770258 38654705667 0 (by decide) (by decide) (by decide) w g
    have e : isF 469770258 0 = true := by decide +kernel
    rw [e] at h
    exact h))
  clear gl
  go_enter Tryd.func17, Tryd.ntmps17
  go_upto_region 1 with fail
  go_wp2_with fail
  refine KP.out.mono ?_
  rintro e w1 ⟨rfl, hb1⟩
  have B1 := Aside0.mk hb1
  clear hb1
  go_upto_region 3 with (first | (go_at_call 16; refine (KG.out _ (by exact GL.out.below (B1.out.alloc B1.out.size _) GL.out.size)).mono ?_; rintro e w2 ⟨rfl, hb2⟩; have B2 := Aside0.mk ((B1.out.alloc B1.out.size _).trans (hb2.mono (by have := B1.out.size; simp only [World.alloc, Array.size_push]; omega))); clear hb2))
  go_wp2_with fail
  go_ret
  exact ⟨rfl, B2.out.alloc B2.out.size _⟩
end Go.Proofs.YthonkcldddfpnaaDoor.FrameA
