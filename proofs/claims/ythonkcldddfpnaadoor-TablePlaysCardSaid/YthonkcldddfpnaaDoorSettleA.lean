/- The law's own small trial of the ending of a turn. -/
import Derived.Test.YthonkcldddfpnaaDoorSettle
import Derived.Test.YthonkcldddfpnaaDoorRegInv
namespace Go.Proofs.YthonkcldddfpnaaDoor.Settle
open Go.RowKit Go.Proofs.YthonkcldddfpnaaDoorW.PrintWords Go.Proofs.YthonkcldddfpnaaDoorW.PrintLast Go.Proofs.YthonkcldddfpnaaDoorW.PrintMore Go.Proofs.YthonkcldddfpnaaDoor.Aid Go.Proofs.YthonkcldddfpnaaDoor.Quiet Go.Proofs.YthonkcldddfpnaaDoor.Blk Go.Proofs.YthonkcldddfpnaaDoor.State Go.Proofs.YthonkcldddfpnaaDoor.Vals Go.Proofs.YthonkcldddfpnaaDoor.Arena Go.Proofs.YthonkcldddfpnaaDoor.SlotF Go.Proofs.YthonkcldddfpnaaDoor.Slot
set_option linter.unusedVariables false
set_option linter.unusedSimpArgs false

theorem look_n {W : World} {B2 g gc n k : Nat} {w : World} {vals : List Int} {ks : List (Nat × List Value)} (j : Nat) (hj : j < n) (h : AS W B2 g gc n w vals k ks) :
    Calls Tryd.prog 36 #[.pointer (some ⟨g, 0, none⟩), .int .i64 (j : Int)] w fun r w' => r = .returned (.int .u64 (vals[j]?.getD 0)) ∧ ∃ m, w' = w.drewN m := by
  obtain ⟨TV, T, h1, h2⟩ := h.st
  exact look_in j hj h1
theorem new_as (n : Nat) (W w : World) (hn : 1 ≤ n ∧ n ≤ 16) (hb : Below W.heap.size W w) :
    Calls Tryd.prog 30 #[.int .i64 (n : Int)] w fun r w' => ∃ B2 g gc, r = .returned (.pointer (some ⟨g, 0, none⟩)) ∧ AS W B2 g gc n w' (List.replicate n 0) 0 [] :=
  (new_st n w hn).mono (by
    rintro r w' ⟨g, gc, h1, h2, h3, h4⟩
    have := hb.size
    exact ⟨w'.heap.size, g, gc, h1, ⟨_, _, h2, Nat.le_refl _⟩, hb.trans (h4.mono hb.size), by have := h4.size; omega, fun p hp => by cases hp⟩)
structure RA (W : World) (B2 ga gc tb y : Nat) (vals : List Int) (w0 : World) (D : Nat → Bool) (u19 u20 u21 u22 u23 u24 u25 u26 u27 u28 u29 u30 u31 u32 u33 u34 u35 u36 u0 : Value) (w : World) : Prop where
  below : Below w0.heap.size w0 w
  h0 : D 0 = true → u19 = .bool true
  h1 : D 1 = true → u20 = .bool true
  h2 : D 2 = true → u21 = .int .i64 0
  h3 : D 3 = true → u22 = .bool true
  h4 : D 4 = true → u23 = .bool true
  h5 : D 5 = true → u24 = .bool true
  h6 : D 6 = true → u25 = .agg #[.int .i64 1, .int .i64 3, .int .i64 9, .int .i64 2, .int .u64 (y : Int)]
  h7 : D 7 = true → u26 = .int .u64 (y : Int)
  h8 : D 8 = true → u27 = .int .u64 (y : Int)
  h9 : D 9 = true → u28 = .bool true
  h10 : D 10 = true → u29 = .bool true
  h11 : D 11 = true → u30 = .bool true
  h12 : D 12 = true → u31 = .pointer (some ⟨ga, 0, none⟩)
  h13 : D 13 = true → u32 = .int .u64 (y : Int)
  h14 : D 14 = true → u33 = .agg #[.int .i64 1, .int .i64 3, .int .i64 9, .int .i64 2, .int .u64 (y : Int)]
  h15 : D 15 = true → u34 = .int .u64 (y : Int)
  h16 : D 16 = true → u35 = .bool true
  h17 : D 17 = true → u36 = .bool true
  h18 : D 18 = true → u0 = .bool true
  as_ : AS W B2 ga gc 2 w vals 5 [(tb, tkv 1 3 9 2 (y : Int))]

set_option maxHeartbeats 4000000 in
set_option maxRecDepth 100000 in
theorem awake_calls (W : World) (gl : LaidSlot.Cells W) : Calls Tryd.prog 35 #[] W fun r w' => r = .returned (.bool true) ∧ Below W.heap.size W w' := by
  have hu60 := Tryd.underlying60
  have hz := Cells.size gl
  have GL := Aside0.mk gl
  clear gl
  go_enter Tryd.func35, Tryd.ntmps35
  go_wp2_with fail
  refine (new_as 2 W _ (by omega) (Below.refl _ _)).mono ?_
  rintro e w1 ⟨B2, ga, gc, rfl, h1⟩
  have A1 := Aside0.mk (show AS W B2 ga gc 2 w1 [0, 0] 0 [] from h1)
  clear h1
  go_wp2_with fail
  have hx := wordN_lt 3 1
  have hxs := wordN_st 3 1
  have hxg := wordN_gen 3 1
  refine (word_calls 3 1 3 1 _ (Cells.below GL.out A1.out.below hz) (by kernel_rfl) (by kernel_rfl) (by omega) (by omega)).mono ?_
  rintro e w2 ⟨rfl, hb⟩
  have A2 := Aside0.mk (A1.out.next hb)
  generalize wordN 3 1 = x at hx hxs hxg ⊢
  have hg3 : genN x = 3 := hxg
  have hs1 : stN x = 1 := hxs
  have HX := Aside0.mk (And.intro hx (And.intro hg3 hs1))
  clear hb A1 hx hxs hxg hg3 hs1
  go_wp2_with fail
  refine (write_as 1 (x : Int) (by omega) (by omega) A2.out).mono ?_
  rintro e w3 ⟨rfl, h3⟩
  have A3 := Aside0.mk (show AS W B2 ga gc 2 w3 [0, (x : Int)] 1 [] from h3)
  clear h3 A2
  go_wp2_with fail
  refine (task_new 1 3 9 _).mono ?_
  rintro e w4 ⟨rfl, hb⟩
  have A4 := Aside0.mk (A3.out.next hb)
  clear hb A3
  go_wp2_with fail
  refine (step_look 1 3 9 0 x GL.out (by omega) (by omega) rfl HX.out.1 1 (by rw [show liveB x 3 = true from decide_eq_true ⟨by rw [HX.out.2.1]; rfl, Or.inl HX.out.2.2⟩]; rfl) A4.out).mono ?_
  rintro e w5 ⟨rfl, h5⟩
  have A5 := Aside0.mk h5
  clear h5 A4
  go_wp2_with fail
  obtain ⟨y, hy⟩ : ∃ y, wordN 3 0 = y := ⟨_, rfl⟩
  have CL := Aside0.mk (fun (w : World) (g : LaidSlot.Cells w) => (show Calls Tryd.prog 29 #[.int .u64 (x : Int), .int .i64 9] w fun r w' => r = .returned (.int .u64 (y : Int)) ∧ Below w.heap.size w w' from by
    have := close_free x HX.out.1 9 9 w g (by kernel_rfl) (Or.inl HX.out.2.2) (by rw [HX.out.2.1]; decide)
    rw [HX.out.2.1, hy] at this
    exact this))
  have WD := Aside0.mk (fun (w : World) (g : LaidSlot.Cells w) => (show Calls Tryd.prog 23 #[.int .i64 3, .int .i64 0] w fun r w' => r = .returned (.int .u64 (y : Int)) ∧ Below w.heap.size w w' from by
    have := word_calls 3 0 3 0 w g (by kernel_rfl) (by kernel_rfl) (by omega) (by omega)
    rw [hy] at this
    exact this))
  refine (step_swap 1 3 9 x y CL.out GL.out (by omega) (by omega) rfl A5.out).mono ?_
  rintro e w6 ⟨rfl, h6⟩
  have A6 := Aside0.mk (show AS W B2 ga gc 2 w6 [0, (y : Int)] 3 [] from h6)
  clear h6 A5 CL HX hy
  go_upto_region 4 with fail
  obtain ⟨tb, htb⟩ : ∃ tb, w6.heap.size = tb := ⟨_, rfl⟩
  have A7 := Aside0.mk (show AS W B2 ga gc 2 (w6.alloc (.cells (tkv 1 3 9 2 (y : Int)).toArray 60)) [0, (y : Int)] 5 [(tb, tkv 1 3 9 2 (y : Int))] from by
    subst htb
    exact ((A6.out.next ((Below.refl w6.heap.size w6).alloc (Nat.le_refl _) _)).add (heap_new _ _) A6.out.below.size).more (by omega))
  obtain ⟨w7, hw7⟩ : ∃ ww, w6.alloc (.cells (tkv 1 3 9 2 (y : Int)).toArray 60) = ww := ⟨_, rfl⟩
  have e7 : w6.alloc (.cells #[.int .i64 1, .int .i64 3, .int .i64 9, .int .i64 2, .int .u64 (y : Int)] 60) = w7 := hw7
  rw [hw7] at A7
  rw [e7]
  try simp only [htb]
  have c0 := A7.out.head.cell 0
  have c1 := A7.out.head.cell 1
  have c2 := A7.out.head.cell 2
  have c3 := A7.out.head.cell 3
  have c4 := A7.out.head.cell 4
  simp only [tkv, List.getElem?_cons_zero, List.getElem?_cons_succ] at c0 c1 c2 c3 c4
  clear hw7 e7 htb A6
  go_wp2_with fail
  refine (done_at 1 3 9 2 (y : Int) 0 true _ (Or.inl ⟨rfl, rfl, rfl⟩)).mono ?_
  rintro e w8 ⟨rfl, hb⟩
  have A5 := Aside0.mk (A7.out.next hb)
  have LK := Aside0.mk (fun (w : World) (h : AS W B2 ga gc 2 w [0, (y : Int)] 5 [(tb, tkv 1 3 9 2 (y : Int))]) => (show Calls Tryd.prog 36 #[.pointer (some ⟨ga, 0, none⟩), .int .i64 1] w fun r w' => r = .returned (.int .u64 (y : Int)) ∧ ∃ m, w' = w.drewN m from look_n 1 (by omega) h))
  clear hb A7 c0 c1 c2 c3 c4
  go_upto_region 5 with fail
  refine RegInv.wp_region_steps (I := fun D a w => ∃ u19 u20 u21 u22 u23 u24 u25 u26 u27 u28 u29 u30 u31 u32 u33 u34 u35 u36 u0, a = ⟨(u0 :: .pointer (some ⟨ga, 0, none⟩) :: .pointer (some ⟨tb, 0, none⟩) :: .int .i64 0 :: .bool true :: .pointer (some ⟨ga, 0, none⟩) :: .pointer (some ⟨ga, 0, none⟩) :: .int .u64 (x : Int) :: .tuple #[] :: .agg #[.int .i64 1, .int .i64 3, .int .i64 9, .int .i64 0, .int .u64 0] :: .pointer (some ⟨ga, 0, none⟩) :: .agg #[.int .i64 1, .int .i64 3, .int .i64 9, .int .i64 1, .int .u64 (x : Int)] :: .pointer (some ⟨ga, 0, none⟩) :: .agg #[.int .i64 1, .int .i64 3, .int .i64 9, .int .i64 2, .int .u64 (y : Int)] :: .tuple #[.int .i64 0, .bool true] :: .agg #[.int .i64 1, .int .i64 3, .int .i64 9, .int .i64 2, .int .u64 (y : Int)] :: .tuple #[.int .i64 0, .bool true] :: .int .i64 0 :: .bool true :: u19 :: u20 :: u21 :: u22 :: u23 :: u24 :: u25 :: u26 :: u27 :: u28 :: u29 :: u30 :: u31 :: u32 :: u33 :: u34 :: u35 :: u36 :: []).toArray, []⟩ ∧ RA W B2 ga gc tb y [0, (y : Int)] W D u19 u20 u21 u22 u23 u24 u25 u26 u27 u28 u29 u30 u31 u32 u33 u34 u35 u36 u0 w) (by kernel_rfl) (by kernel_rfl) ?_ ?_ ?_
  · exact ⟨_, _, _, _, _, _, _, _, _, _, _, _, _, _, _, _, _, _, _, rfl, ⟨A5.out.below.drew, fun h => (by cases h), fun h => (by cases h), fun h => (by cases h), fun h => (by cases h), fun h => (by cases h), fun h => (by cases h), fun h => (by cases h), fun h => (by cases h), fun h => (by cases h), fun h => (by cases h), fun h => (by cases h), fun h => (by cases h), fun h => (by cases h), fun h => (by cases h), fun h => (by cases h), fun h => (by cases h), fun h => (by cases h), fun h => (by cases h), fun h => (by cases h), A5.out.next ((Below.refl _ _).drew)⟩⟩
  · rintro D a w ⟨u19, u20, u21, u22, u23, u24, u25, u26, u27, u28, u29, u30, u31, u32, u33, u34, u35, u36, u0, rfl, hR⟩ hall
    obtain rfl := hR.h0 (hall 0 (by decide))
    obtain rfl := hR.h1 (hall 1 (by decide))
    obtain rfl := hR.h2 (hall 2 (by decide))
    obtain rfl := hR.h3 (hall 3 (by decide))
    obtain rfl := hR.h4 (hall 4 (by decide))
    obtain rfl := hR.h5 (hall 5 (by decide))
    obtain rfl := hR.h6 (hall 6 (by decide))
    obtain rfl := hR.h7 (hall 7 (by decide))
    obtain rfl := hR.h8 (hall 8 (by decide))
    obtain rfl := hR.h9 (hall 9 (by decide))
    obtain rfl := hR.h10 (hall 10 (by decide))
    obtain rfl := hR.h11 (hall 11 (by decide))
    obtain rfl := hR.h12 (hall 12 (by decide))
    obtain rfl := hR.h13 (hall 13 (by decide))
    obtain rfl := hR.h14 (hall 14 (by decide))
    obtain rfl := hR.h15 (hall 15 (by decide))
    obtain rfl := hR.h16 (hall 16 (by decide))
    obtain rfl := hR.h17 (hall 17 (by decide))
    obtain rfl := hR.h18 (hall 18 (by decide))
    have hb := hR.below
    go_wp2_with fail
    go_ret
    exact ⟨rfl, hb⟩
  · refine RegInv.Steps.cons (fun D a w hI hD hdep K hK => ?_) ?_
    · obtain ⟨u19, u20, u21, u22, u23, u24, u25, u26, u27, u28, u29, u30, u31, u32, u33, u34, u35, u36, u0, rfl, hR⟩ := hI
      rw [if_pos (by rfl)]
      go_simp
      exact hK.out _ _ ⟨_, _, _, _, _, _, _, _, _, _, _, _, _, _, _, _, _, _, _, rfl, ⟨hR.below, fun _ => rfl, hR.h1, hR.h2, hR.h3, hR.h4, hR.h5, hR.h6, hR.h7, hR.h8, hR.h9, hR.h10, hR.h11, hR.h12, hR.h13, hR.h14, hR.h15, hR.h16, hR.h17, hR.h18, hR.as_⟩⟩
    refine RegInv.Steps.cons (fun D a w hI hD hdep K hK => ?_) ?_
    · obtain ⟨u19, u20, u21, u22, u23, u24, u25, u26, u27, u28, u29, u30, u31, u32, u33, u34, u35, u36, u0, rfl, hR⟩ := hI
      have d0 : D 0 = true := hdep ⟨0, .data⟩ (by simp) rfl
      obtain rfl := hR.h0 d0
      rw [if_pos (by rfl)]
      go_simp
      exact hK.out _ _ ⟨_, _, _, _, _, _, _, _, _, _, _, _, _, _, _, _, _, _, _, rfl, ⟨hR.below, hR.h0, fun _ => rfl, hR.h2, hR.h3, hR.h4, hR.h5, hR.h6, hR.h7, hR.h8, hR.h9, hR.h10, hR.h11, hR.h12, hR.h13, hR.h14, hR.h15, hR.h16, hR.h17, hR.h18, hR.as_⟩⟩
    refine RegInv.Steps.cons (fun D a w hI hD hdep K hK => ?_) ?_
    · obtain ⟨u19, u20, u21, u22, u23, u24, u25, u26, u27, u28, u29, u30, u31, u32, u33, u34, u35, u36, u0, rfl, hR⟩ := hI
      have g1 : D 1 = true := hdep ⟨1, .guard⟩ (by simp) rfl
      obtain rfl := hR.h1 g1
      rw [if_pos (by rfl)]
      go_simp
      exact hK.out _ _ ⟨_, _, _, _, _, _, _, _, _, _, _, _, _, _, _, _, _, _, _, rfl, ⟨hR.below, hR.h0, hR.h1, fun _ => rfl, hR.h3, hR.h4, hR.h5, hR.h6, hR.h7, hR.h8, hR.h9, hR.h10, hR.h11, hR.h12, hR.h13, hR.h14, hR.h15, hR.h16, hR.h17, hR.h18, hR.as_⟩⟩
    refine RegInv.Steps.cons (fun D a w hI hD hdep K hK => ?_) ?_
    · obtain ⟨u19, u20, u21, u22, u23, u24, u25, u26, u27, u28, u29, u30, u31, u32, u33, u34, u35, u36, u0, rfl, hR⟩ := hI
      have d2 : D 2 = true := hdep ⟨2, .data⟩ (by simp) rfl
      obtain rfl := hR.h2 d2
      have g1 : D 1 = true := hdep ⟨1, .guard⟩ (by simp) rfl
      obtain rfl := hR.h1 g1
      rw [if_pos (by rfl)]
      go_simp
      exact hK.out _ _ ⟨_, _, _, _, _, _, _, _, _, _, _, _, _, _, _, _, _, _, _, rfl, ⟨hR.below, hR.h0, hR.h1, hR.h2, fun _ => rfl, hR.h4, hR.h5, hR.h6, hR.h7, hR.h8, hR.h9, hR.h10, hR.h11, hR.h12, hR.h13, hR.h14, hR.h15, hR.h16, hR.h17, hR.h18, hR.as_⟩⟩
    refine RegInv.Steps.cons (fun D a w hI hD hdep K hK => ?_) ?_
    · obtain ⟨u19, u20, u21, u22, u23, u24, u25, u26, u27, u28, u29, u30, u31, u32, u33, u34, u35, u36, u0, rfl, hR⟩ := hI
      have d1 : D 1 = true := hdep ⟨1, .data⟩ (by simp) rfl
      obtain rfl := hR.h1 d1
      have d3 : D 3 = true := hdep ⟨3, .data⟩ (by simp) rfl
      obtain rfl := hR.h3 d3
      rw [if_pos (by rfl)]
      go_simp
      exact hK.out _ _ ⟨_, _, _, _, _, _, _, _, _, _, _, _, _, _, _, _, _, _, _, rfl, ⟨hR.below, hR.h0, hR.h1, hR.h2, hR.h3, fun _ => rfl, hR.h5, hR.h6, hR.h7, hR.h8, hR.h9, hR.h10, hR.h11, hR.h12, hR.h13, hR.h14, hR.h15, hR.h16, hR.h17, hR.h18, hR.as_⟩⟩
    refine RegInv.Steps.cons (fun D a w hI hD hdep K hK => ?_) ?_
    · obtain ⟨u19, u20, u21, u22, u23, u24, u25, u26, u27, u28, u29, u30, u31, u32, u33, u34, u35, u36, u0, rfl, hR⟩ := hI
      have d4 : D 4 = true := hdep ⟨4, .data⟩ (by simp) rfl
      obtain rfl := hR.h4 d4
      rw [if_pos (by rfl)]
      go_simp
      exact hK.out _ _ ⟨_, _, _, _, _, _, _, _, _, _, _, _, _, _, _, _, _, _, _, rfl, ⟨hR.below, hR.h0, hR.h1, hR.h2, hR.h3, hR.h4, fun _ => rfl, hR.h6, hR.h7, hR.h8, hR.h9, hR.h10, hR.h11, hR.h12, hR.h13, hR.h14, hR.h15, hR.h16, hR.h17, hR.h18, hR.as_⟩⟩
    refine RegInv.Steps.cons (fun D a w hI hD hdep K hK => ?_) ?_
    · obtain ⟨u19, u20, u21, u22, u23, u24, u25, u26, u27, u28, u29, u30, u31, u32, u33, u34, u35, u36, u0, rfl, hR⟩ := hI
      have g5 : D 5 = true := hdep ⟨5, .guard⟩ (by simp) rfl
      obtain rfl := hR.h5 g5
      rw [if_pos (by rfl)]
      refine wp_load_row 60 (.tmp 2) rfl tb rfl 60 _ (0, 0) _ hR.as_.head Tryd.underlying60 rfl (by kernel_rfl) ?_
      exact hK.out _ _ ⟨_, _, _, _, _, _, _, _, _, _, _, _, _, _, _, _, _, _, _, rfl, ⟨hR.below, hR.h0, hR.h1, hR.h2, hR.h3, hR.h4, hR.h5, fun _ => rfl, hR.h7, hR.h8, hR.h9, hR.h10, hR.h11, hR.h12, hR.h13, hR.h14, hR.h15, hR.h16, hR.h17, hR.h18, hR.as_⟩⟩
    refine RegInv.Steps.cons (fun D a w hI hD hdep K hK => ?_) ?_
    · obtain ⟨u19, u20, u21, u22, u23, u24, u25, u26, u27, u28, u29, u30, u31, u32, u33, u34, u35, u36, u0, rfl, hR⟩ := hI
      have d6 : D 6 = true := hdep ⟨6, .data⟩ (by simp) rfl
      obtain rfl := hR.h6 d6
      have g5 : D 5 = true := hdep ⟨5, .guard⟩ (by simp) rfl
      obtain rfl := hR.h5 g5
      rw [if_pos (by rfl)]
      go_simp
      with_reducible refine (word_at 1 3 9 (y : Int) _).mono ?_
      rintro e w9 ⟨rfl, hb9⟩
      exact hK.out _ _ ⟨_, _, _, _, _, _, _, _, _, _, _, _, _, _, _, _, _, _, _, rfl, ⟨hR.below.trans (hb9.mono hR.below.size), hR.h0, hR.h1, hR.h2, hR.h3, hR.h4, hR.h5, hR.h6, fun _ => rfl, hR.h8, hR.h9, hR.h10, hR.h11, hR.h12, hR.h13, hR.h14, hR.h15, hR.h16, hR.h17, hR.h18, hR.as_.next hb9⟩⟩
    refine RegInv.Steps.cons (fun D a w hI hD hdep K hK => ?_) ?_
    · obtain ⟨u19, u20, u21, u22, u23, u24, u25, u26, u27, u28, u29, u30, u31, u32, u33, u34, u35, u36, u0, rfl, hR⟩ := hI
      have g5 : D 5 = true := hdep ⟨5, .guard⟩ (by simp) rfl
      obtain rfl := hR.h5 g5
      rw [if_pos (by rfl)]
      go_simp
      with_reducible refine (WD.out _ (Cells.below GL.out hR.as_.below hz)).mono ?_
      rintro e w9 ⟨rfl, hb9⟩
      exact hK.out _ _ ⟨_, _, _, _, _, _, _, _, _, _, _, _, _, _, _, _, _, _, _, rfl, ⟨hR.below.trans (hb9.mono hR.below.size), hR.h0, hR.h1, hR.h2, hR.h3, hR.h4, hR.h5, hR.h6, hR.h7, fun _ => rfl, hR.h9, hR.h10, hR.h11, hR.h12, hR.h13, hR.h14, hR.h15, hR.h16, hR.h17, hR.h18, hR.as_.next hb9⟩⟩
    refine RegInv.Steps.cons (fun D a w hI hD hdep K hK => ?_) ?_
    · obtain ⟨u19, u20, u21, u22, u23, u24, u25, u26, u27, u28, u29, u30, u31, u32, u33, u34, u35, u36, u0, rfl, hR⟩ := hI
      have d7 : D 7 = true := hdep ⟨7, .data⟩ (by simp) rfl
      obtain rfl := hR.h7 d7
      have d8 : D 8 = true := hdep ⟨8, .data⟩ (by simp) rfl
      obtain rfl := hR.h8 d8
      have g5 : D 5 = true := hdep ⟨5, .guard⟩ (by simp) rfl
      obtain rfl := hR.h5 g5
      rw [if_pos (by rfl)]
      go_simp
      exact hK.out _ _ ⟨_, _, _, _, _, _, _, _, _, _, _, _, _, _, _, _, _, _, _, rfl, ⟨hR.below, hR.h0, hR.h1, hR.h2, hR.h3, hR.h4, hR.h5, hR.h6, hR.h7, hR.h8, fun _ => rfl, hR.h10, hR.h11, hR.h12, hR.h13, hR.h14, hR.h15, hR.h16, hR.h17, hR.h18, hR.as_⟩⟩
    refine RegInv.Steps.cons (fun D a w hI hD hdep K hK => ?_) ?_
    · obtain ⟨u19, u20, u21, u22, u23, u24, u25, u26, u27, u28, u29, u30, u31, u32, u33, u34, u35, u36, u0, rfl, hR⟩ := hI
      have d5 : D 5 = true := hdep ⟨5, .data⟩ (by simp) rfl
      obtain rfl := hR.h5 d5
      have d9 : D 9 = true := hdep ⟨9, .data⟩ (by simp) rfl
      obtain rfl := hR.h9 d9
      rw [if_pos (by rfl)]
      go_simp
      exact hK.out _ _ ⟨_, _, _, _, _, _, _, _, _, _, _, _, _, _, _, _, _, _, _, rfl, ⟨hR.below, hR.h0, hR.h1, hR.h2, hR.h3, hR.h4, hR.h5, hR.h6, hR.h7, hR.h8, hR.h9, fun _ => rfl, hR.h11, hR.h12, hR.h13, hR.h14, hR.h15, hR.h16, hR.h17, hR.h18, hR.as_⟩⟩
    refine RegInv.Steps.cons (fun D a w hI hD hdep K hK => ?_) ?_
    · obtain ⟨u19, u20, u21, u22, u23, u24, u25, u26, u27, u28, u29, u30, u31, u32, u33, u34, u35, u36, u0, rfl, hR⟩ := hI
      have d10 : D 10 = true := hdep ⟨10, .data⟩ (by simp) rfl
      obtain rfl := hR.h10 d10
      rw [if_pos (by rfl)]
      go_simp
      exact hK.out _ _ ⟨_, _, _, _, _, _, _, _, _, _, _, _, _, _, _, _, _, _, _, rfl, ⟨hR.below, hR.h0, hR.h1, hR.h2, hR.h3, hR.h4, hR.h5, hR.h6, hR.h7, hR.h8, hR.h9, hR.h10, fun _ => rfl, hR.h12, hR.h13, hR.h14, hR.h15, hR.h16, hR.h17, hR.h18, hR.as_⟩⟩
    refine RegInv.Steps.cons (fun D a w hI hD hdep K hK => ?_) ?_
    · obtain ⟨u19, u20, u21, u22, u23, u24, u25, u26, u27, u28, u29, u30, u31, u32, u33, u34, u35, u36, u0, rfl, hR⟩ := hI
      have g11 : D 11 = true := hdep ⟨11, .guard⟩ (by simp) rfl
      obtain rfl := hR.h11 g11
      rw [if_pos (by rfl)]
      go_simp
      exact hK.out _ _ ⟨_, _, _, _, _, _, _, _, _, _, _, _, _, _, _, _, _, _, _, rfl, ⟨hR.below, hR.h0, hR.h1, hR.h2, hR.h3, hR.h4, hR.h5, hR.h6, hR.h7, hR.h8, hR.h9, hR.h10, hR.h11, fun _ => rfl, hR.h13, hR.h14, hR.h15, hR.h16, hR.h17, hR.h18, hR.as_⟩⟩
    refine RegInv.Steps.cons (fun D a w hI hD hdep K hK => ?_) ?_
    · obtain ⟨u19, u20, u21, u22, u23, u24, u25, u26, u27, u28, u29, u30, u31, u32, u33, u34, u35, u36, u0, rfl, hR⟩ := hI
      have d12 : D 12 = true := hdep ⟨12, .data⟩ (by simp) rfl
      obtain rfl := hR.h12 d12
      have g11 : D 11 = true := hdep ⟨11, .guard⟩ (by simp) rfl
      obtain rfl := hR.h11 g11
      rw [if_pos (by rfl)]
      go_simp
      with_reducible refine (LK.out _ hR.as_).mono ?_
      rintro e w9 ⟨rfl, n9, rfl⟩
      have hb9 := below_drewN (Below.refl w.heap.size w) n9
      exact hK.out _ _ ⟨_, _, _, _, _, _, _, _, _, _, _, _, _, _, _, _, _, _, _, rfl, ⟨hR.below.trans (hb9.mono hR.below.size), hR.h0, hR.h1, hR.h2, hR.h3, hR.h4, hR.h5, hR.h6, hR.h7, hR.h8, hR.h9, hR.h10, hR.h11, hR.h12, fun _ => rfl, hR.h14, hR.h15, hR.h16, hR.h17, hR.h18, hR.as_.next hb9⟩⟩
    refine RegInv.Steps.cons (fun D a w hI hD hdep K hK => ?_) ?_
    · obtain ⟨u19, u20, u21, u22, u23, u24, u25, u26, u27, u28, u29, u30, u31, u32, u33, u34, u35, u36, u0, rfl, hR⟩ := hI
      have g11 : D 11 = true := hdep ⟨11, .guard⟩ (by simp) rfl
      obtain rfl := hR.h11 g11
      rw [if_pos (by rfl)]
      refine wp_load_row 60 (.tmp 2) rfl tb rfl 60 _ (0, 0) _ hR.as_.head Tryd.underlying60 rfl (by kernel_rfl) ?_
      exact hK.out _ _ ⟨_, _, _, _, _, _, _, _, _, _, _, _, _, _, _, _, _, _, _, rfl, ⟨hR.below, hR.h0, hR.h1, hR.h2, hR.h3, hR.h4, hR.h5, hR.h6, hR.h7, hR.h8, hR.h9, hR.h10, hR.h11, hR.h12, hR.h13, fun _ => rfl, hR.h15, hR.h16, hR.h17, hR.h18, hR.as_⟩⟩
    refine RegInv.Steps.cons (fun D a w hI hD hdep K hK => ?_) ?_
    · obtain ⟨u19, u20, u21, u22, u23, u24, u25, u26, u27, u28, u29, u30, u31, u32, u33, u34, u35, u36, u0, rfl, hR⟩ := hI
      have d14 : D 14 = true := hdep ⟨14, .data⟩ (by simp) rfl
      obtain rfl := hR.h14 d14
      have g11 : D 11 = true := hdep ⟨11, .guard⟩ (by simp) rfl
      obtain rfl := hR.h11 g11
      rw [if_pos (by rfl)]
      go_simp
      with_reducible refine (word_at 1 3 9 (y : Int) _).mono ?_
      rintro e w9 ⟨rfl, hb9⟩
      exact hK.out _ _ ⟨_, _, _, _, _, _, _, _, _, _, _, _, _, _, _, _, _, _, _, rfl, ⟨hR.below.trans (hb9.mono hR.below.size), hR.h0, hR.h1, hR.h2, hR.h3, hR.h4, hR.h5, hR.h6, hR.h7, hR.h8, hR.h9, hR.h10, hR.h11, hR.h12, hR.h13, hR.h14, fun _ => rfl, hR.h16, hR.h17, hR.h18, hR.as_.next hb9⟩⟩
    refine RegInv.Steps.cons (fun D a w hI hD hdep K hK => ?_) ?_
    · obtain ⟨u19, u20, u21, u22, u23, u24, u25, u26, u27, u28, u29, u30, u31, u32, u33, u34, u35, u36, u0, rfl, hR⟩ := hI
      have d13 : D 13 = true := hdep ⟨13, .data⟩ (by simp) rfl
      obtain rfl := hR.h13 d13
      have d15 : D 15 = true := hdep ⟨15, .data⟩ (by simp) rfl
      obtain rfl := hR.h15 d15
      have g11 : D 11 = true := hdep ⟨11, .guard⟩ (by simp) rfl
      obtain rfl := hR.h11 g11
      rw [if_pos (by rfl)]
      go_simp
      exact hK.out _ _ ⟨_, _, _, _, _, _, _, _, _, _, _, _, _, _, _, _, _, _, _, rfl, ⟨hR.below, hR.h0, hR.h1, hR.h2, hR.h3, hR.h4, hR.h5, hR.h6, hR.h7, hR.h8, hR.h9, hR.h10, hR.h11, hR.h12, hR.h13, hR.h14, hR.h15, fun _ => rfl, hR.h17, hR.h18, hR.as_⟩⟩
    refine RegInv.Steps.cons (fun D a w hI hD hdep K hK => ?_) ?_
    · obtain ⟨u19, u20, u21, u22, u23, u24, u25, u26, u27, u28, u29, u30, u31, u32, u33, u34, u35, u36, u0, rfl, hR⟩ := hI
      have d11 : D 11 = true := hdep ⟨11, .data⟩ (by simp) rfl
      obtain rfl := hR.h11 d11
      have d16 : D 16 = true := hdep ⟨16, .data⟩ (by simp) rfl
      obtain rfl := hR.h16 d16
      rw [if_pos (by rfl)]
      go_simp
      exact hK.out _ _ ⟨_, _, _, _, _, _, _, _, _, _, _, _, _, _, _, _, _, _, _, rfl, ⟨hR.below, hR.h0, hR.h1, hR.h2, hR.h3, hR.h4, hR.h5, hR.h6, hR.h7, hR.h8, hR.h9, hR.h10, hR.h11, hR.h12, hR.h13, hR.h14, hR.h15, hR.h16, fun _ => rfl, hR.h18, hR.as_⟩⟩
    refine RegInv.Steps.cons (fun D a w hI hD hdep K hK => ?_) ?_
    · obtain ⟨u19, u20, u21, u22, u23, u24, u25, u26, u27, u28, u29, u30, u31, u32, u33, u34, u35, u36, u0, rfl, hR⟩ := hI
      have d17 : D 17 = true := hdep ⟨17, .data⟩ (by simp) rfl
      obtain rfl := hR.h17 d17
      rw [if_pos (by rfl)]
      go_simp
      exact hK.out _ _ ⟨_, _, _, _, _, _, _, _, _, _, _, _, _, _, _, _, _, _, _, rfl, ⟨hR.below, hR.h0, hR.h1, hR.h2, hR.h3, hR.h4, hR.h5, hR.h6, hR.h7, hR.h8, hR.h9, hR.h10, hR.h11, hR.h12, hR.h13, hR.h14, hR.h15, hR.h16, hR.h17, fun _ => rfl, hR.as_⟩⟩
    exact RegInv.Steps.nil
end Go.Proofs.YthonkcldddfpnaaDoor.Settle
