/- A call's tries: a new one; its own small trial. -/
import Derived.Test.YtbhnpabanfbalaaAtt
namespace Go.Proofs.Ytbhnpabanfbalaa.Att
open Go.RowKit Go.Proofs.YtbhnpabanfbalaaW.PrintWords Go.Proofs.YtbhnpabanfbalaaW.PrintLast Go.Proofs.YtbhnpabanfbalaaW.PrintMore Go.Proofs.Ytbhnpabanfbalaa.Aid Go.Proofs.Ytbhnpabanfbalaa.Quiet Go.Proofs.Ytbhnpabanfbalaa.Blk Go.Proofs.Ytbhnpabanfbalaa.State Go.Proofs.Ytbhnpabanfbalaa.Vals
set_option linter.unusedVariables false
set_option linter.unusedSimpArgs false
attribute [local go_sem] max2_int min2_int max_two min_two

structure RA (W : World) (xb : Nat) (f0 f1 f2 f3 f4 f5 f6 : Int) (f7 f8 : Bool) (f9 f10 : Int) (en0 en k0 k1 : Int) (w0 : World) (D : Nat → Bool) (u9 u10 u11 u12 u13 u14 u6 : Value) (w : World) : Prop where
  below : Below w0.heap.size w0 w
  h0 : D 0 = true → u9 = .agg ([.int .i64 1, .int .i64 f1, .int .i64 f2, .int .i64 f3, .int .i64 f4, .int .u32 f5, .int .i64 0, .bool f7, .bool f8, .int .i64 f9, .int .u32 f10] : List Value).toArray
  h1 : D 1 = true → u10 = .int .i64 en0
  h2 : D 2 = true → u11 = .int .i64 en
  h3 : D 3 = true → u12 = .agg ([.int .i64 k0, .int .i64 k1] : List Value).toArray
  h4 : D 4 = true → u13 = .agg (atV 1 f1 f2 f3 f4 f5 0 f7 f8 f9 f10 en k0 k1 0 0 0 0 0 false).toArray
  hx : HoldsV 24 w xb [.int .i64 1, .int .i64 f1, .int .i64 f2, .int .i64 f3, .int .i64 f4, .int .u32 f5, .int .i64 0, .bool f7, .bool f8, .int .i64 f9, .int .u32 f10]
  hy : HoldsV 29 w (xb + 1) [.int .i64 k0, .int .i64 k1]
  x5 : D 5 = true → ∃ a, u14 = .pointer (some ⟨a, 0, none⟩) ∧ HoldsV 59 w a (atV 1 f1 f2 f3 f4 f5 0 f7 f8 f9 f10 en k0 k1 0 0 0 0 0 false) ∧ W.heap.size ≤ a
  x6 : D 6 = true → ∃ a, u6 = .pointer (some ⟨a, 0, none⟩) ∧ HoldsV 59 w a (atV 1 f1 f2 f3 f4 f5 0 f7 f8 f9 f10 en k0 k1 0 0 0 0 0 false) ∧ W.heap.size ≤ a
set_option maxHeartbeats 2000000 in
set_option maxRecDepth 100000 in
theorem att_new (f0 f1 f2 f3 f4 f5 f6 : Int) (f7 f8 : Bool) (f9 f10 : Int) (en0 en k0 k1 : Int) (W : World) (hc : PAttemptNone.ticks_Clamp.f en0 = some en) :
    Calls Try.prog 6 #[.agg #[.int .i64 f0, .int .i64 f1, .int .i64 f2, .int .i64 f3, .int .i64 f4, .int .u32 f5, .int .i64 f6, .bool f7, .bool f8, .int .i64 f9, .int .u32 f10], .int .i64 en0, .agg #[.int .i64 k0, .int .i64 k1]] W fun r w' => ∃ ab, r = .returned (.pointer (some ⟨ab, 0, none⟩)) ∧ HoldsV 59 w' ab (atV 1 f1 f2 f3 f4 f5 0 f7 f8 f9 f10 en k0 k1 0 0 0 0 0 false) ∧ W.heap.size ≤ ab ∧ Below W.heap.size W w' := by
  have KC := Aside0.mk (fun w => PAttemptNone.ticks_Clamp.calls en0 en w hc)
  have hu24 := Try.underlying24
  have hu29 := Try.underlying29
  clear hc
  go_enter Try.func6, Try.ntmps6
  go_upto_region 1 with fail
  obtain ⟨xb, hxb⟩ : ∃ x, W.heap.size = x := ⟨_, rfl⟩
  have HX0 := Aside0.mk (show HoldsV 24 ((W.alloc (.cells #[.int .i64 f0, .int .i64 f1, .int .i64 f2, .int .i64 f3, .int .i64 f4, .int .u32 f5, .int .i64 f6, .bool f7, .bool f8, .int .i64 f9, .int .u32 f10] 24)).alloc (.cells #[.int .i64 k0, .int .i64 k1] 29)) xb [.int .i64 f0, .int .i64 f1, .int .i64 f2, .int .i64 f3, .int .i64 f4, .int .u32 f5, .int .i64 f6, .bool f7, .bool f8, .int .i64 f9, .int .u32 f10] by rw [← hxb]; exact heap_old (heap_new _ _))
  have HY0 := Aside0.mk (show HoldsV 29 ((W.alloc (.cells #[.int .i64 f0, .int .i64 f1, .int .i64 f2, .int .i64 f3, .int .i64 f4, .int .u32 f5, .int .i64 f6, .bool f7, .bool f8, .int .i64 f9, .int .u32 f10] 24)).alloc (.cells #[.int .i64 k0, .int .i64 k1] 29)) (xb + 1) [.int .i64 k0, .int .i64 k1] by rw [← hxb]; exact heap_new' _ (by simp))
  have B0 := Aside0.mk (((Below.refl W.heap.size W).alloc (Nat.le_refl _) (.cells #[.int .i64 f0, .int .i64 f1, .int .i64 f2, .int .i64 f3, .int .i64 f4, .int .u32 f5, .int .i64 f6, .bool f7, .bool f8, .int .i64 f9, .int .u32 f10] 24)).alloc (by simp) (.cells #[.int .i64 k0, .int .i64 k1] 29))
  obtain ⟨w1, hw1⟩ : ∃ ww, (W.alloc (.cells #[.int .i64 f0, .int .i64 f1, .int .i64 f2, .int .i64 f3, .int .i64 f4, .int .u32 f5, .int .i64 f6, .bool f7, .bool f8, .int .i64 f9, .int .u32 f10] 24)).alloc (.cells #[.int .i64 k0, .int .i64 k1] 29) = ww := ⟨_, rfl⟩
  rw [hw1] at HX0 HY0 B0 ⊢
  try simp only [hxb, World.alloc, Array.size_push]
  have x0 := HX0.out.cell 0
  have x6 := HX0.out.cell 6
  have g0 := HX0.out.free 0
  have g6 := HX0.out.free 6
  simp only [List.getElem?_cons_zero, List.getElem?_cons_succ] at x0 x6
  go_upto_region 2 with fail
  have HX := Aside0.mk (show HoldsV 24 ((w1.setCell ⟨xb, 0, none⟩ (.int .i64 1)).setCell ⟨xb, 6, none⟩ (.int .i64 0)) xb [.int .i64 1, .int .i64 f1, .int .i64 f2, .int .i64 f3, .int .i64 f4, .int .u32 f5, .int .i64 0, .bool f7, .bool f8, .int .i64 f9, .int .u32 f10] from (HX0.out.set 0 (.int .i64 1)).set 6 (.int .i64 0))
  have HY := Aside0.mk (show HoldsV 29 ((w1.setCell ⟨xb, 0, none⟩ (.int .i64 1)).setCell ⟨xb, 6, none⟩ (.int .i64 0)) (xb + 1) [.int .i64 k0, .int .i64 k1] from (HY0.out.other (p := ⟨xb, 0, none⟩) _ (by simp)).other (p := ⟨xb, 6, none⟩) _ (by simp))
  have B4 := Aside0.mk ((B0.out.setCell (p := ⟨xb, 0, none⟩) (by show W.heap.size ≤ xb; omega) (.int .i64 1)).setCell (p := ⟨xb, 6, none⟩) (by show W.heap.size ≤ xb; omega) (.int .i64 0))
  obtain ⟨w2, hw2⟩ : ∃ ww, (w1.setCell ⟨xb, 0, none⟩ (.int .i64 1)).setCell ⟨xb, 6, none⟩ (.int .i64 0) = ww := ⟨_, rfl⟩
  rw [hw2] at HX HY B4 ⊢
  clear hw1 hw2 HX0 HY0 B0 x0 x6 g0 g6 hxb
  go_cut [6] from 9 to 14 (fun v wx => ∃ ab, v = .pointer (some ⟨ab, 0, none⟩) ∧ HoldsV 59 wx ab (atV 1 f1 f2 f3 f4 f5 0 f7 f8 f9 f10 en k0 k1 0 0 0 0 0 false) ∧ W.heap.size ≤ ab ∧ Below W.heap.size W wx)
  case first =>
    refine RegInv.wp_region_steps (I := fun D a w => ∃ u9 u10 u11 u12 u13 u14 u6, a = ⟨(.agg #[.int .i64 f0, .int .i64 f1, .int .i64 f2, .int .i64 f3, .int .i64 f4, .int .u32 f5, .int .i64 f6, .bool f7, .bool f8, .int .i64 f9, .int .u32 f10] :: .int .i64 en0 :: .agg #[.int .i64 k0, .int .i64 k1] :: .pointer (some ⟨xb, 0, none⟩) :: undef :: .pointer (some ⟨xb + 1, 0, none⟩) :: u6 :: .pointer (some ⟨xb, 0, none⟩) :: .pointer (some ⟨xb, 6, none⟩) :: u9 :: u10 :: u11 :: u12 :: u13 :: u14 :: []).toArray, []⟩ ∧ RA W xb f0 f1 f2 f3 f4 f5 f6 f7 f8 f9 f10 en0 en k0 k1 W D u9 u10 u11 u12 u13 u14 u6 w) (by kernel_rfl) (by kernel_rfl) ?_ ?_ ?_
    · exact ⟨_, _, _, _, _, _, _, rfl, ⟨B4.out.drew, fun h => (by cases h), fun h => (by cases h), fun h => (by cases h), fun h => (by cases h), fun h => (by cases h), HX.out.below' ((Below.refl _ _).drew), HY.out.below' ((Below.refl _ _).drew), fun h => (by cases h), fun h => (by cases h)⟩⟩
    · rintro D a w ⟨u9, u10, u11, u12, u13, u14, u6, rfl, hR⟩ hall
      obtain rfl := hR.h0 (hall 0 (by decide))
      obtain rfl := hR.h1 (hall 1 (by decide))
      obtain rfl := hR.h2 (hall 2 (by decide))
      obtain rfl := hR.h3 (hall 3 (by decide))
      obtain rfl := hR.h4 (hall 4 (by decide))
      obtain ⟨ab, rfl, hn⟩ := hR.x6 (hall 6 (by decide))
      go_wp2_with fail
      go_meet
      exact ⟨ab, rfl, hn.1, hn.2, hR.below⟩
    · refine RegInv.Steps.cons (fun D a w hI hD hdep K hK => ?_) ?_
      · obtain ⟨u9, u10, u11, u12, u13, u14, u6, rfl, hR⟩ := hI
        rw [if_pos (by rfl)]
        refine wp_load_row 24 (.tmp 3) rfl xb rfl 24 _ (0, 0) _ hR.hx Try.underlying24 rfl (by kernel_rfl) ?_
        exact hK.out _ _ ⟨_, _, _, _, _, _, _, rfl, ⟨hR.below, fun _ => rfl, hR.h1, hR.h2, hR.h3, hR.h4, hR.hx, hR.hy, hR.x5, hR.x6⟩⟩
      refine RegInv.Steps.cons (fun D a w hI hD hdep K hK => ?_) ?_
      · obtain ⟨u9, u10, u11, u12, u13, u14, u6, rfl, hR⟩ := hI
        rw [if_pos (by rfl)]
        go_simp
        exact hK.out _ _ ⟨_, _, _, _, _, _, _, rfl, ⟨hR.below, hR.h0, fun _ => rfl, hR.h2, hR.h3, hR.h4, hR.hx, hR.hy, hR.x5, hR.x6⟩⟩
      refine RegInv.Steps.cons (fun D a w hI hD hdep K hK => ?_) ?_
      · obtain ⟨u9, u10, u11, u12, u13, u14, u6, rfl, hR⟩ := hI
        have d1 : D 1 = true := hdep ⟨1, .data⟩ (by simp) rfl
        obtain rfl := hR.h1 d1
        rw [if_pos (by rfl)]
        go_simp
        with_reducible refine (KC.out _).mono ?_
        rintro e w9 ⟨rfl, hb9⟩
        exact hK.out _ _ ⟨_, _, _, _, _, _, _, rfl, ⟨hR.below.trans (hb9.mono hR.below.size), hR.h0, hR.h1, fun _ => rfl, hR.h3, hR.h4, hR.hx.below' hb9, hR.hy.below' hb9, fun h => (hR.x5 h).imp fun _ h => ⟨h.1, h.2.1.below' hb9, h.2.2⟩, fun h => (hR.x6 h).imp fun _ h => ⟨h.1, h.2.1.below' hb9, h.2.2⟩⟩⟩
      refine RegInv.Steps.cons (fun D a w hI hD hdep K hK => ?_) ?_
      · obtain ⟨u9, u10, u11, u12, u13, u14, u6, rfl, hR⟩ := hI
        rw [if_pos (by rfl)]
        refine wp_load_row 29 (.tmp 5) rfl (xb + 1) rfl 29 _ (0, 0) _ hR.hy Try.underlying29 rfl (by kernel_rfl) ?_
        exact hK.out _ _ ⟨_, _, _, _, _, _, _, rfl, ⟨hR.below, hR.h0, hR.h1, hR.h2, fun _ => rfl, hR.h4, hR.hx, hR.hy, hR.x5, hR.x6⟩⟩
      refine RegInv.Steps.cons (fun D a w hI hD hdep K hK => ?_) ?_
      · obtain ⟨u9, u10, u11, u12, u13, u14, u6, rfl, hR⟩ := hI
        have d0 : D 0 = true := hdep ⟨0, .data⟩ (by simp) rfl
        obtain rfl := hR.h0 d0
        have d2 : D 2 = true := hdep ⟨2, .data⟩ (by simp) rfl
        obtain rfl := hR.h2 d2
        have d3 : D 3 = true := hdep ⟨3, .data⟩ (by simp) rfl
        obtain rfl := hR.h3 d3
        rw [if_pos (by rfl)]
        go_simp
        exact hK.out _ _ ⟨_, _, _, _, _, _, _, rfl, ⟨hR.below, hR.h0, hR.h1, hR.h2, hR.h3, fun _ => rfl, hR.hx, hR.hy, hR.x5, hR.x6⟩⟩
      refine RegInv.Steps.cons (fun D a w hI hD hdep K hK => ?_) ?_
      · obtain ⟨u9, u10, u11, u12, u13, u14, u6, rfl, hR⟩ := hI
        have d4 : D 4 = true := hdep ⟨4, .data⟩ (by simp) rfl
        obtain rfl := hR.h4 d4
        have hb9 : Below w.heap.size w (w.alloc (.cells (atV 1 f1 f2 f3 f4 f5 0 f7 f8 f9 f10 en k0 k1 0 0 0 0 0 false).toArray 59)) := (Below.refl _ _).alloc (Nat.le_refl _) _
        rw [if_pos (by rfl)]
        go_simp
        exact hK.out _ _ ⟨_, _, _, _, _, _, _, rfl, ⟨hR.below.trans (hb9.mono hR.below.size), hR.h0, hR.h1, hR.h2, hR.h3, hR.h4, hR.hx.below' hb9, hR.hy.below' hb9, fun _ => ⟨w.heap.size, rfl, heap_new _ _, hR.below.size⟩, fun h => (hR.x6 h).imp fun _ h => ⟨h.1, h.2.1.below' hb9, h.2.2⟩⟩⟩
      refine RegInv.Steps.cons (fun D a w hI hD hdep K hK => ?_) ?_
      · obtain ⟨u9, u10, u11, u12, u13, u14, u6, rfl, hR⟩ := hI
        have d5 : D 5 = true := hdep ⟨5, .data⟩ (by simp) rfl
        obtain ⟨a, rfl, hn⟩ := hR.x5 d5
        rw [if_pos (by rfl)]
        go_simp
        exact hK.out _ _ ⟨_, _, _, _, _, _, _, rfl, ⟨hR.below, hR.h0, hR.h1, hR.h2, hR.h3, hR.h4, hR.hx, hR.hy, hR.x5, fun _ => ⟨a, rfl, hn⟩⟩⟩
      exact RegInv.Steps.nil
  case rest =>
    obtain ⟨ab, rfl, h⟩ := hcut
    go_wp2_with fail
    go_ret
    exact ⟨ab, rfl, h⟩
structure RS (ab lb : Nat) (LB : List Value) (w0 : World) (D : Nat → Bool) (u20 u21 u22 u23 u24 u25 u26 u27 u28 u29 u30 u31 : Value) (w : World) : Prop where
  below : OnlyIn [ab] w0 w
  h0 : D 0 = true → u20 = .pointer (some ⟨ab, 0, none⟩)
  h1 : D 1 = true → u21 = .pointer (some ⟨ab, 0, none⟩)
  h2 : D 2 = true → u22 = .pointer (some ⟨ab, 15, none⟩)
  h3 : D 3 = true → u23 = .int .i64 0
  h4 : D 4 = true → u24 = .pointer (some ⟨ab, 0, none⟩)
  h5 : D 5 = true → u25 = .pointer (some ⟨ab, 0, none⟩)
  h6 : D 6 = true → u26 = .pointer (some ⟨ab, 14, none⟩)
  h7 : D 7 = true → u27 = .int .i64 0
  h8 : D 8 = true → u28 = .int .i64 1
  h9 : D 9 = true → u29 = .int .i64 1
  h10 : D 10 = true → u30 = .pointer (some ⟨ab, 0, none⟩)
  h11 : D 11 = true → u31 = .pointer (some ⟨ab, 15, none⟩)
  r0 : D 12 = false → HoldsV 59 w ab (atV 1 0 0 2 3 0 0 false false 0 0 100 0 0 0 0 0 0 0 false)
  r1 : D 12 = true → HoldsV 59 w ab (atV 1 0 0 2 3 0 0 false false 0 0 100 0 0 0 1 0 0 0 false)
  lbx : HoldsV 24 w lb LB
  o9 : D 9 = true → D 3 = true ∧ D 7 = true
  o8 : D 8 = true → D 7 = true
  o12 : D 12 = true → D 3 = true ∧ D 7 = true
set_option maxHeartbeats 2000000 in
set_option maxRecDepth 100000 in
theorem send_first (ab : Nat) (w : World) (h : HoldsV 59 w ab (atV 1 0 0 2 3 0 0 false false 0 0 100 0 0 0 0 0 0 0 false)) :
    Calls Try.prog 22 #[.pointer (some ⟨ab, 0, none⟩), .int .i64 0] w fun r w' => ∃ sb, r = .returned (.slice (some ⟨sb, 0, none⟩) 1 1) ∧ HoldsV 65 w' sb [.int .i64 1, .int .i64 1, .int .i64 0, .int .i64 0, .int .i64 2, .int .i64 3, .int .u32 0, .int .i64 0, .bool false, .bool false, .int .i64 0, .int .u32 0, .int .i64 0, .int .i64 0, .int .i64 0, .int .i64 0, .int .i64 0] ∧ ab ≠ sb ∧ w.heap.size ≤ sb ∧ HoldsV 59 w' ab (atV 1 0 0 2 3 0 0 false false 0 0 100 0 0 1 1 0 0 0 false) ∧ OnlyIn [ab] w w' := by
  have H := Aside0.mk h
  have hu24 := Try.underlying24
  have c0 := h.cell 0
  have c1 := h.cell 1
  have c2 := h.cell 2
  have c3 := h.cell 3
  have c4 := h.cell 4
  have c5 := h.cell 5
  have c6 := h.cell 6
  have c7 := h.cell 7
  have c8 := h.cell 8
  have c9 := h.cell 9
  have c10 := h.cell 10
  have c14 := h.cell 14
  simp only [atV, List.getElem?_cons_zero, List.getElem?_cons_succ] at c0 c1 c2 c3 c4 c5 c6 c7 c8 c9 c10 c14
  have hal := h.lt
  clear h
  go_enter Try.func22, Try.ntmps22
  go_upto_region 5 with fail
  obtain ⟨lb, hlb⟩ : ∃ x, w.heap.size = x := ⟨_, rfl⟩
  have HNE := Aside0.mk (show ab ≠ lb by omega)
  have HLW := Aside0.mk (show w.heap.size ≤ lb by omega)
  have O3 := Aside0.mk (show OnlyIn [ab] w (w.alloc (.cells #[.int .i64 1, .int .i64 0, .int .i64 0, .int .i64 2, .int .i64 3, .int .u32 0, .int .i64 0, .bool false, .bool false, .int .i64 0, .int .u32 0] 24)) from OnlyIn.of_below ((Below.refl _ _).alloc (Nat.le_refl _) _))
  have H5 := Aside0.mk (show HoldsV 59 (w.alloc (.cells #[.int .i64 1, .int .i64 0, .int .i64 0, .int .i64 2, .int .i64 3, .int .u32 0, .int .i64 0, .bool false, .bool false, .int .i64 0, .int .u32 0] 24)) ab (atV 1 0 0 2 3 0 0 false false 0 0 100 0 0 0 0 0 0 0 false) from heap_old H.out)
  have HLB := Aside0.mk (show HoldsV 24 (w.alloc (.cells #[.int .i64 1, .int .i64 0, .int .i64 0, .int .i64 2, .int .i64 3, .int .u32 0, .int .i64 0, .bool false, .bool false, .int .i64 0, .int .u32 0] 24)) lb [.int .i64 1, .int .i64 0, .int .i64 0, .int .i64 2, .int .i64 3, .int .u32 0, .int .i64 0, .bool false, .bool false, .int .i64 0, .int .u32 0] from by rw [← hlb]; exact heap_new _ _)
  obtain ⟨w3, hw3⟩ : ∃ ww, w.alloc (.cells #[.int .i64 1, .int .i64 0, .int .i64 0, .int .i64 2, .int .i64 3, .int .u32 0, .int .i64 0, .bool false, .bool false, .int .i64 0, .int .u32 0] 24) = ww := ⟨_, rfl⟩
  rw [hw3] at O3 H5 HLB ⊢
  try simp only [hlb]
  clear hw3 hlb H hal c0 c1 c2 c3 c4 c5 c6 c7 c8 c9 c10 c14
  go_cut [] from 20 to 31 (fun wx => HoldsV 59 wx ab (atV 1 0 0 2 3 0 0 false false 0 0 100 0 0 0 1 0 0 0 false) ∧ HoldsV 24 wx lb [.int .i64 1, .int .i64 0, .int .i64 0, .int .i64 2, .int .i64 3, .int .u32 0, .int .i64 0, .bool false, .bool false, .int .i64 0, .int .u32 0] ∧ OnlyIn [ab] w3 wx)
  case first =>
    refine RegInv.wp_region_steps (I := fun D a w => ∃ u20 u21 u22 u23 u24 u25 u26 u27 u28 u29 u30 u31, a = ⟨(.pointer (some ⟨ab, 0, none⟩) :: .int .i64 0 :: undef :: undef :: .slice none 0 0 :: .pointer (some ⟨lb, 0, none⟩) :: .pointer (some ⟨ab, 0, none⟩) :: .pointer (some ⟨ab, 0, none⟩) :: .pointer (some ⟨ab, 14, none⟩) :: .int .i64 0 :: .bool false :: .pointer (some ⟨ab, 0, none⟩) :: .pointer (some ⟨ab, 0, none⟩) :: .pointer (some ⟨ab, 0, none⟩) :: .agg #[.int .i64 1, .int .i64 0, .int .i64 0, .int .i64 2, .int .i64 3, .int .u32 0, .int .i64 0, .bool false, .bool false, .int .i64 0, .int .u32 0] :: .pointer (some ⟨ab, 0, none⟩) :: .pointer (some ⟨ab, 0, none⟩) :: .pointer (some ⟨ab, 14, none⟩) :: .int .i64 0 :: .pointer (some ⟨lb, 6, none⟩) :: u20 :: u21 :: u22 :: u23 :: u24 :: u25 :: u26 :: u27 :: u28 :: u29 :: u30 :: u31 :: undef :: undef :: undef :: undef :: undef :: undef :: undef :: undef :: undef :: undef :: undef :: undef :: undef :: undef :: undef :: []).toArray, []⟩ ∧ RS ab lb [.int .i64 1, .int .i64 0, .int .i64 0, .int .i64 2, .int .i64 3, .int .u32 0, .int .i64 0, .bool false, .bool false, .int .i64 0, .int .u32 0] w3 D u20 u21 u22 u23 u24 u25 u26 u27 u28 u29 u30 u31 w) (by kernel_rfl) (by kernel_rfl) ?_ ?_ ?_
    · exact ⟨_, _, _, _, _, _, _, _, _, _, _, _, rfl, ⟨OnlyIn.of_below ((Below.refl _ _).drew), fun h => (by cases h), fun h => (by cases h), fun h => (by cases h), fun h => (by cases h), fun h => (by cases h), fun h => (by cases h), fun h => (by cases h), fun h => (by cases h), fun h => (by cases h), fun h => (by cases h), fun h => (by cases h), fun h => (by cases h), fun _ => H5.out.below' ((Below.refl _ _).drew), fun h => (by cases h), HLB.out.below' ((Below.refl _ _).drew), fun h => (by cases h), fun h => (by cases h), fun h => (by cases h)⟩⟩
    · rintro D a w ⟨u20, u21, u22, u23, u24, u25, u26, u27, u28, u29, u30, u31, rfl, hR⟩ hall
      obtain rfl := hR.h0 (hall 0 (by decide))
      obtain rfl := hR.h1 (hall 1 (by decide))
      obtain rfl := hR.h2 (hall 2 (by decide))
      obtain rfl := hR.h3 (hall 3 (by decide))
      obtain rfl := hR.h4 (hall 4 (by decide))
      obtain rfl := hR.h5 (hall 5 (by decide))
      obtain rfl := hR.h6 (hall 6 (by decide))
      obtain rfl := hR.h7 (hall 7 (by decide))
      obtain rfl := hR.h8 (hall 8 (by decide))
      obtain rfl := hR.h9 (hall 9 (by decide))
      obtain rfl := hR.h10 (hall 10 (by decide))
      obtain rfl := hR.h11 (hall 11 (by decide))
      go_wp2_with fail
      go_meet
      exact ⟨hR.r1 (hall 12 (by decide)), hR.lbx, hR.below⟩
    · refine RegInv.Steps.cons (fun D a w hI hD hdep K hK => ?_) ?_
      · obtain ⟨u20, u21, u22, u23, u24, u25, u26, u27, u28, u29, u30, u31, rfl, hR⟩ := hI
        rw [if_pos (by rfl)]
        go_simp
        exact hK.out _ _ ⟨_, _, _, _, _, _, _, _, _, _, _, _, rfl, ⟨hR.below, fun _ => rfl, hR.h1, hR.h2, hR.h3, hR.h4, hR.h5, hR.h6, hR.h7, hR.h8, hR.h9, hR.h10, hR.h11, hR.r0, hR.r1, hR.lbx, hR.o9, hR.o8, hR.o12⟩⟩
      refine RegInv.Steps.cons (fun D a w hI hD hdep K hK => ?_) ?_
      · obtain ⟨u20, u21, u22, u23, u24, u25, u26, u27, u28, u29, u30, u31, rfl, hR⟩ := hI
        have d0 : D 0 = true := hdep ⟨0, .data⟩ (by simp) rfl
        obtain rfl := hR.h0 d0
        rw [if_pos (by rfl)]
        go_simp
        exact hK.out _ _ ⟨_, _, _, _, _, _, _, _, _, _, _, _, rfl, ⟨hR.below, hR.h0, fun _ => rfl, hR.h2, hR.h3, hR.h4, hR.h5, hR.h6, hR.h7, hR.h8, hR.h9, hR.h10, hR.h11, hR.r0, hR.r1, hR.lbx, hR.o9, hR.o8, hR.o12⟩⟩
      refine RegInv.Steps.cons (fun D a w hI hD hdep K hK => ?_) ?_
      · obtain ⟨u20, u21, u22, u23, u24, u25, u26, u27, u28, u29, u30, u31, rfl, hR⟩ := hI
        have d1 : D 1 = true := hdep ⟨1, .data⟩ (by simp) rfl
        obtain rfl := hR.h1 d1
        rw [if_pos (by rfl)]
        go_simp
        exact hK.out _ _ ⟨_, _, _, _, _, _, _, _, _, _, _, _, rfl, ⟨hR.below, hR.h0, hR.h1, fun _ => rfl, hR.h3, hR.h4, hR.h5, hR.h6, hR.h7, hR.h8, hR.h9, hR.h10, hR.h11, hR.r0, hR.r1, hR.lbx, hR.o9, hR.o8, hR.o12⟩⟩
      refine RegInv.Steps.cons (fun D a w hI hD hdep K hK => ?_) ?_
      · obtain ⟨u20, u21, u22, u23, u24, u25, u26, u27, u28, u29, u30, u31, rfl, hR⟩ := hI
        have d2 : D 2 = true := hdep ⟨2, .data⟩ (by simp) rfl
        obtain rfl := hR.h2 d2
        have h12 : D 12 = false := by
          cases h : D 12 with
          | false => rfl
          | true => exact absurd (hR.o12 h).1 (by rw [hD]; decide)
        have cc := (hR.r0 h12).cell 15
        simp only [atV, List.getElem?_cons_zero, List.getElem?_cons_succ] at cc
        rw [if_pos (by rfl)]
        go_simp
        exact hK.out _ _ ⟨_, _, _, _, _, _, _, _, _, _, _, _, rfl, ⟨hR.below, hR.h0, hR.h1, hR.h2, fun _ => rfl, hR.h4, hR.h5, hR.h6, hR.h7, hR.h8, hR.h9, hR.h10, hR.h11, hR.r0, hR.r1, hR.lbx, fun h => ⟨rfl, (hR.o9 h).2⟩, hR.o8, fun h => ⟨rfl, (hR.o12 h).2⟩⟩⟩
      refine RegInv.Steps.cons (fun D a w hI hD hdep K hK => ?_) ?_
      · obtain ⟨u20, u21, u22, u23, u24, u25, u26, u27, u28, u29, u30, u31, rfl, hR⟩ := hI
        rw [if_pos (by rfl)]
        go_simp
        exact hK.out _ _ ⟨_, _, _, _, _, _, _, _, _, _, _, _, rfl, ⟨hR.below, hR.h0, hR.h1, hR.h2, hR.h3, fun _ => rfl, hR.h5, hR.h6, hR.h7, hR.h8, hR.h9, hR.h10, hR.h11, hR.r0, hR.r1, hR.lbx, hR.o9, hR.o8, hR.o12⟩⟩
      refine RegInv.Steps.cons (fun D a w hI hD hdep K hK => ?_) ?_
      · obtain ⟨u20, u21, u22, u23, u24, u25, u26, u27, u28, u29, u30, u31, rfl, hR⟩ := hI
        have d4 : D 4 = true := hdep ⟨4, .data⟩ (by simp) rfl
        obtain rfl := hR.h4 d4
        rw [if_pos (by rfl)]
        go_simp
        exact hK.out _ _ ⟨_, _, _, _, _, _, _, _, _, _, _, _, rfl, ⟨hR.below, hR.h0, hR.h1, hR.h2, hR.h3, hR.h4, fun _ => rfl, hR.h6, hR.h7, hR.h8, hR.h9, hR.h10, hR.h11, hR.r0, hR.r1, hR.lbx, hR.o9, hR.o8, hR.o12⟩⟩
      refine RegInv.Steps.cons (fun D a w hI hD hdep K hK => ?_) ?_
      · obtain ⟨u20, u21, u22, u23, u24, u25, u26, u27, u28, u29, u30, u31, rfl, hR⟩ := hI
        have d5 : D 5 = true := hdep ⟨5, .data⟩ (by simp) rfl
        obtain rfl := hR.h5 d5
        rw [if_pos (by rfl)]
        go_simp
        exact hK.out _ _ ⟨_, _, _, _, _, _, _, _, _, _, _, _, rfl, ⟨hR.below, hR.h0, hR.h1, hR.h2, hR.h3, hR.h4, hR.h5, fun _ => rfl, hR.h7, hR.h8, hR.h9, hR.h10, hR.h11, hR.r0, hR.r1, hR.lbx, hR.o9, hR.o8, hR.o12⟩⟩
      refine RegInv.Steps.cons (fun D a w hI hD hdep K hK => ?_) ?_
      · obtain ⟨u20, u21, u22, u23, u24, u25, u26, u27, u28, u29, u30, u31, rfl, hR⟩ := hI
        have d6 : D 6 = true := hdep ⟨6, .data⟩ (by simp) rfl
        obtain rfl := hR.h6 d6
        have h12 : D 12 = false := by
          cases h : D 12 with
          | false => rfl
          | true => exact absurd (hR.o12 h).2 (by rw [hD]; decide)
        have cc := (hR.r0 h12).cell 14
        simp only [atV, List.getElem?_cons_zero, List.getElem?_cons_succ] at cc
        rw [if_pos (by rfl)]
        go_simp
        exact hK.out _ _ ⟨_, _, _, _, _, _, _, _, _, _, _, _, rfl, ⟨hR.below, hR.h0, hR.h1, hR.h2, hR.h3, hR.h4, hR.h5, hR.h6, fun _ => rfl, hR.h8, hR.h9, hR.h10, hR.h11, hR.r0, hR.r1, hR.lbx, fun h => ⟨(hR.o9 h).1, rfl⟩, fun _ => rfl, fun h => ⟨(hR.o12 h).1, rfl⟩⟩⟩
      refine RegInv.Steps.cons (fun D a w hI hD hdep K hK => ?_) ?_
      · obtain ⟨u20, u21, u22, u23, u24, u25, u26, u27, u28, u29, u30, u31, rfl, hR⟩ := hI
        have d7 : D 7 = true := hdep ⟨7, .data⟩ (by simp) rfl
        obtain rfl := hR.h7 d7
        rw [if_pos (by rfl)]
        go_simp
        exact hK.out _ _ ⟨_, _, _, _, _, _, _, _, _, _, _, _, rfl, ⟨hR.below, hR.h0, hR.h1, hR.h2, hR.h3, hR.h4, hR.h5, hR.h6, hR.h7, fun _ => rfl, hR.h9, hR.h10, hR.h11, hR.r0, hR.r1, hR.lbx, hR.o9, fun _ => d7, hR.o12⟩⟩
      refine RegInv.Steps.cons (fun D a w hI hD hdep K hK => ?_) ?_
      · obtain ⟨u20, u21, u22, u23, u24, u25, u26, u27, u28, u29, u30, u31, rfl, hR⟩ := hI
        have d3 : D 3 = true := hdep ⟨3, .data⟩ (by simp) rfl
        obtain rfl := hR.h3 d3
        have d8 : D 8 = true := hdep ⟨8, .data⟩ (by simp) rfl
        obtain rfl := hR.h8 d8
        rw [if_pos (by rfl)]
        go_simp
        exact hK.out _ _ ⟨_, _, _, _, _, _, _, _, _, _, _, _, rfl, ⟨hR.below, hR.h0, hR.h1, hR.h2, hR.h3, hR.h4, hR.h5, hR.h6, hR.h7, hR.h8, fun _ => rfl, hR.h10, hR.h11, hR.r0, hR.r1, hR.lbx, fun _ => ⟨d3, hR.o8 d8⟩, hR.o8, hR.o12⟩⟩
      refine RegInv.Steps.cons (fun D a w hI hD hdep K hK => ?_) ?_
      · obtain ⟨u20, u21, u22, u23, u24, u25, u26, u27, u28, u29, u30, u31, rfl, hR⟩ := hI
        have d0 : D 0 = true := hdep ⟨0, .data⟩ (by simp) rfl
        obtain rfl := hR.h0 d0
        rw [if_pos (by rfl)]
        go_simp
        exact hK.out _ _ ⟨_, _, _, _, _, _, _, _, _, _, _, _, rfl, ⟨hR.below, hR.h0, hR.h1, hR.h2, hR.h3, hR.h4, hR.h5, hR.h6, hR.h7, hR.h8, hR.h9, fun _ => rfl, hR.h11, hR.r0, hR.r1, hR.lbx, hR.o9, hR.o8, hR.o12⟩⟩
      refine RegInv.Steps.cons (fun D a w hI hD hdep K hK => ?_) ?_
      · obtain ⟨u20, u21, u22, u23, u24, u25, u26, u27, u28, u29, u30, u31, rfl, hR⟩ := hI
        have d10 : D 10 = true := hdep ⟨10, .data⟩ (by simp) rfl
        obtain rfl := hR.h10 d10
        rw [if_pos (by rfl)]
        go_simp
        exact hK.out _ _ ⟨_, _, _, _, _, _, _, _, _, _, _, _, rfl, ⟨hR.below, hR.h0, hR.h1, hR.h2, hR.h3, hR.h4, hR.h5, hR.h6, hR.h7, hR.h8, hR.h9, hR.h10, fun _ => rfl, hR.r0, hR.r1, hR.lbx, hR.o9, hR.o8, hR.o12⟩⟩
      refine RegInv.Steps.cons (fun D a w hI hD hdep K hK => ?_) ?_
      · obtain ⟨u20, u21, u22, u23, u24, u25, u26, u27, u28, u29, u30, u31, rfl, hR⟩ := hI
        have d11 : D 11 = true := hdep ⟨11, .data⟩ (by simp) rfl
        obtain rfl := hR.h11 d11
        have d9 : D 9 = true := hdep ⟨9, .data⟩ (by simp) rfl
        obtain rfl := hR.h9 d9
        have d3 : D 3 = true := hR.o9 d9 |>.1
        have d7 : D 7 = true := hR.o9 d9 |>.2
        have rr := hR.r0 hD
        have cc := rr.cell 15
        simp only [atV, List.getElem?_cons_zero, List.getElem?_cons_succ] at cc
        have ff := rr.free 15
        have hs := rr.set 15 (.int .i64 1)
        rw [if_pos (by rfl)]
        go_simp
        exact hK.out _ _ ⟨_, _, _, _, _, _, _, _, _, _, _, _, rfl, ⟨hR.below.set _ _ (by simp), hR.h0, hR.h1, hR.h2, hR.h3, hR.h4, hR.h5, hR.h6, hR.h7, hR.h8, hR.h9, hR.h10, hR.h11, fun h => absurd h (by rw [RegInv.upd_at]; decide), fun _ => hs, hR.lbx.other _ HNE.out.symm, hR.o9, hR.o8, fun _ => ⟨d3, d7⟩⟩⟩
      exact RegInv.Steps.nil
  case rest =>
    obtain ⟨g1, g2, g3⟩ := hcut
    rename_i w4
    have H6 := Aside0.mk g1
    have L6 := Aside0.mk g2
    have O6 := Aside0.mk (O3.out.trans g3)
    have c14 := g1.cell 14
    have f14 := g1.free 14
    simp only [atV, List.getElem?_cons_zero, List.getElem?_cons_succ] at c14
    clear g1 g2 g3 O3 H5 HLB
    go_wp2_with fail
    have H7 := Aside0.mk (H6.out.set 14 (.int .i64 1))
    have L7 := Aside0.mk (L6.out.other (p := ⟨ab, 14, none⟩) (.int .i64 1) HNE.out.symm)
    have O7 := Aside0.mk (O6.out.set ⟨ab, 14, none⟩ (.int .i64 1) (by simp))
    refine (PAttemptNone.ticks_Clamp.calls 0 0 _ (by kernel_rfl)).mono ?_
    rintro e w8 ⟨rfl, hb⟩
    have H8 := Aside0.mk (H7.out.below' hb)
    have L8 := Aside0.mk (L7.out.below' hb)
    have O8 := Aside0.mk (O7.out.next hb)
    have c18 := H8.out.cell 18
    have f18 := H8.out.free 18
    clear hb c14 f14 H6 L6 O6 H7 L7 O7
    go_upto_region 8 with fail
    have H9 := Aside0.mk (show HoldsV 59 (w8.setCell ⟨ab, 18, none⟩ (.int .i64 0)) ab (atV 1 0 0 2 3 0 0 false false 0 0 100 0 0 1 1 0 0 0 false) from H8.out.set 18 (.int .i64 0))
    have L9 := Aside0.mk (L8.out.other (p := ⟨ab, 18, none⟩) (.int .i64 0) HNE.out.symm)
    have O9 := Aside0.mk (O8.out.set ⟨ab, 18, none⟩ (.int .i64 0) (by simp))
    obtain ⟨w9, hw9⟩ : ∃ ww, w8.setCell ⟨ab, 18, none⟩ (.int .i64 0) = ww := ⟨_, rfl⟩
    rw [hw9] at H9 L9 O9 ⊢
    have c0 := L9.out.cell 0
    have c1 := L9.out.cell 1
    have c2 := L9.out.cell 2
    have c3 := L9.out.cell 3
    have c4 := L9.out.cell 4
    have c5 := L9.out.cell 5
    have c6 := L9.out.cell 6
    have c7 := L9.out.cell 7
    have c8 := L9.out.cell 8
    have c9 := L9.out.cell 9
    have c10 := L9.out.cell 10
    simp only [List.getElem?_cons_zero, List.getElem?_cons_succ] at c0 c1 c2 c3 c4 c5 c6 c7 c8 c9 c10
    clear hw9 c18 f18 H8 L8 O8
    go_wp2_with fail
    go_ret
    exact ⟨w9.heap.size, rfl, heap_new _ _, by have := H9.out.lt; omega, O9.out.size, heap_old H9.out, O9.out.next ((Below.refl _ _).alloc (Nat.le_refl _) _)⟩
end Go.Proofs.Ytbhnpabanfbalaa.Att
