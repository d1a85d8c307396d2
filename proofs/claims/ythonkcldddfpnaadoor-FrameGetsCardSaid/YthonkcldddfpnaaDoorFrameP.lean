/- A frame's words. -/
import Derived.Test.YthonkcldddfpnaaDoorFrameG
namespace Go.Proofs.YthonkcldddfpnaaDoor.FrameP
open Go.RowKit Go.Proofs.YthonkcldddfpnaaDoor.PFrameGets Go.Proofs.YthonkcldddfpnaaDoorW.PrintWords Go.Proofs.YthonkcldddfpnaaDoorW.PrintLast Go.Proofs.YthonkcldddfpnaaDoorW.PrintMore Go.Proofs.YthonkcldddfpnaaDoor.Aid Go.Proofs.YthonkcldddfpnaaDoor.Quiet Go.Proofs.YthonkcldddfpnaaDoor.Blk Go.Proofs.YthonkcldddfpnaaDoor.State Go.Proofs.YthonkcldddfpnaaDoor.Vals Go.Proofs.YthonkcldddfpnaaDoor.FieldMath Go.Proofs.YthonkcldddfpnaaDoor.FrameF Go.Proofs.YthonkcldddfpnaaDoor.LaidFrame
set_option linter.unusedVariables false
set_option linter.unusedSimpArgs false
attribute [local go_sem] max2_int min2_int max_two min_two
structure RP (bx br k c v s g ca t q u p8 pv : Nat) (b d : Bool) (w0 : World) (D : Nat → Bool) (u56 u57 u58 u59 u60 u61 u62 u63 u64 u65 u66 u67 u68 u3 : Value) (w : World) : Prop where
  below : Below w0.heap.size w0 w
  h0 : D 0 = true → u56 = .int .u64 (p8 : Int)
  h1 : D 1 = true → u57 = .agg #[.int .i64 32, .int .i64 32]
  h2 : D 2 = true → u58 = .pointer (some ⟨bx, 5, none⟩)
  h3 : D 3 = true → u59 = .int .u32 (ca : Int)
  h4 : D 4 = true → u60 = .int .u64 (ca : Int)
  h5 : D 5 = true → u61 = .pointer (some ⟨bx, 10, none⟩)
  h6 : D 6 = true → u62 = .int .u32 (u : Int)
  h7 : D 7 = true → u63 = .int .u64 (u : Int)
  h8 : D 8 = true → u64 = .int .u64 (pv : Int)
  h9 : D 9 = true → u65 = .pointer (some ⟨bx, 9, none⟩)
  h10 : D 10 = true → u66 = .int .i64 (q : Int)
  h11 : D 11 = true → u67 = .int .u64 (q : Int)
  h12 : D 12 = true → u68 = .agg ([.int .u64 (p8 : Int), .int .u64 (pv : Int), .int .u64 (q : Int)] : List Value).toArray
  h14 : D 14 = true → u3 = .bool true
  x : HoldsV 24 w bx [.int .i64 (k : Int), .int .i64 (c : Int), .int .i64 (v : Int), .int .i64 (s : Int), .int .i64 (g : Int), .int .u32 (ca : Int), .int .i64 (t : Int), .bool b, .bool d, .int .i64 (q : Int), .int .u32 (u : Int)]
  v : HoldsV 28 w br (if D 13 = true then [.int .u64 (p8 : Int), .int .u64 (pv : Int), .int .u64 (q : Int)] else [.int .u64 0, .int .u64 0, .int .u64 0])

set_option maxHeartbeats 8000000 in
set_option maxRecDepth 100000 in
theorem put_core (k c v s g ca t q u nb nd : Nat) (b d : Bool) (hnb : frame_bit.f b = some (nb : Int)) (hnd : frame_bit.f d = some (nd : Int)) (hk : k < 2 ^ 62) (hc : c < 2 ^ 62) (hv : v < 2 ^ 62) (hs : s < 2 ^ 62) (hg : g < 2 ^ 62) (hca : ca < 2 ^ 32) (ht : t < 2 ^ 62) (hq : q < 2 ^ 62) (hu : u < 2 ^ 32) (p1 : Nat) (p2 : Nat) (p3 : Nat) (p4 : Nat) (p5 : Nat) (p6 : Nat) (p7 : Nat) (p8 : Nat) (hp1 : putN 0 0 4 k = p1) (hp2 : putN p1 4 4 c = p2) (hp3 : putN p2 8 4 v = p3) (hp4 : putN p3 12 8 s = p4) (hp5 : putN p4 20 4 t = p5) (hp6 : putN p5 24 1 nb = p6) (hp7 : putN p6 25 1 nd = p7) (hp8 : putN p7 26 24 g = p8) (pv : Nat) (hpv : putN ca 32 32 u = pv)
    (hM : frame_May.f k c v s g ca t b d q u = some true) (W : World) (gl : Cells W) : Calls Tryd.prog 14 #[.agg #[.int .i64 (k : Int), .int .i64 (c : Int), .int .i64 (v : Int), .int .i64 (s : Int), .int .i64 (g : Int), .int .u32 (ca : Int), .int .i64 (t : Int), .bool b, .bool d, .int .i64 (q : Int), .int .u32 (u : Int)]] W fun r w' => r = .returned (.tuple #[.agg #[.int .u64 (p8 : Int), .int .u64 (pv : Int), .int .u64 (q : Int)], .bool true]) ∧ Below W.heap.size W w' := by
  have KP1 := Aside0.mk (fun w => (field_Field_Put.calls 0 4 (0 : Int) (k : Int) (p1 : Int) w (by rw [← hp1]; exact FrameF.fPut_eq 0 0 4 k (by decide) (by decide) (by decide)) : Calls Tryd.prog 48 #[.agg #[.int .i64 0, .int .i64 4], .int .u64 (0 : Int), .int .u64 (k : Int)] w fun e w' => e = .returned (.int .u64 (p1 : Int)) ∧ Below w.heap.size w w'))
  have KP2 := Aside0.mk (fun w => (field_Field_Put.calls 4 4 (p1 : Int) (c : Int) (p2 : Int) w (by rw [← hp2]; exact FrameF.fPut_eq p1 4 4 c (by decide) (by decide) (by rw [← hp1]; exact putN_lt (by decide))) : Calls Tryd.prog 48 #[.agg #[.int .i64 4, .int .i64 4], .int .u64 (p1 : Int), .int .u64 (c : Int)] w fun e w' => e = .returned (.int .u64 (p2 : Int)) ∧ Below w.heap.size w w'))
  have KP3 := Aside0.mk (fun w => (field_Field_Put.calls 8 4 (p2 : Int) (v : Int) (p3 : Int) w (by rw [← hp3]; exact FrameF.fPut_eq p2 8 4 v (by decide) (by decide) (by rw [← hp2]; exact putN_lt (by decide))) : Calls Tryd.prog 48 #[.agg #[.int .i64 8, .int .i64 4], .int .u64 (p2 : Int), .int .u64 (v : Int)] w fun e w' => e = .returned (.int .u64 (p3 : Int)) ∧ Below w.heap.size w w'))
  have KP4 := Aside0.mk (fun w => (field_Field_Put.calls 12 8 (p3 : Int) (s : Int) (p4 : Int) w (by rw [← hp4]; exact FrameF.fPut_eq p3 12 8 s (by decide) (by decide) (by rw [← hp3]; exact putN_lt (by decide))) : Calls Tryd.prog 48 #[.agg #[.int .i64 12, .int .i64 8], .int .u64 (p3 : Int), .int .u64 (s : Int)] w fun e w' => e = .returned (.int .u64 (p4 : Int)) ∧ Below w.heap.size w w'))
  have KP5 := Aside0.mk (fun w => (field_Field_Put.calls 20 4 (p4 : Int) (t : Int) (p5 : Int) w (by rw [← hp5]; exact FrameF.fPut_eq p4 20 4 t (by decide) (by decide) (by rw [← hp4]; exact putN_lt (by decide))) : Calls Tryd.prog 48 #[.agg #[.int .i64 20, .int .i64 4], .int .u64 (p4 : Int), .int .u64 (t : Int)] w fun e w' => e = .returned (.int .u64 (p5 : Int)) ∧ Below w.heap.size w w'))
  have KP6 := Aside0.mk (fun w => (field_Field_Put.calls 24 1 (p5 : Int) (nb : Int) (p6 : Int) w (by rw [← hp6]; exact FrameF.fPut_eq p5 24 1 nb (by decide) (by decide) (by rw [← hp5]; exact putN_lt (by decide))) : Calls Tryd.prog 48 #[.agg #[.int .i64 24, .int .i64 1], .int .u64 (p5 : Int), .int .u64 (nb : Int)] w fun e w' => e = .returned (.int .u64 (p6 : Int)) ∧ Below w.heap.size w w'))
  have KP7 := Aside0.mk (fun w => (field_Field_Put.calls 25 1 (p6 : Int) (nd : Int) (p7 : Int) w (by rw [← hp7]; exact FrameF.fPut_eq p6 25 1 nd (by decide) (by decide) (by rw [← hp6]; exact putN_lt (by decide))) : Calls Tryd.prog 48 #[.agg #[.int .i64 25, .int .i64 1], .int .u64 (p6 : Int), .int .u64 (nd : Int)] w fun e w' => e = .returned (.int .u64 (p7 : Int)) ∧ Below w.heap.size w w'))
  have KP8 := Aside0.mk (fun w => (field_Field_Put.calls 26 24 (p7 : Int) (g : Int) (p8 : Int) w (by rw [← hp8]; exact FrameF.fPut_eq p7 26 24 g (by decide) (by decide) (by rw [← hp7]; exact putN_lt (by decide))) : Calls Tryd.prog 48 #[.agg #[.int .i64 26, .int .i64 24], .int .u64 (p7 : Int), .int .u64 (g : Int)] w fun e w' => e = .returned (.int .u64 (p8 : Int)) ∧ Below w.heap.size w w'))
  have KV := Aside0.mk (fun w => (field_Field_Put.calls 32 32 (ca : Int) (u : Int) (pv : Int) w (by rw [← hpv]; exact FrameF.fPut_eq ca 32 32 u (by decide) (by decide) (by omega)) : Calls Tryd.prog 48 #[.agg #[.int .i64 32, .int .i64 32], .int .u64 (ca : Int), .int .u64 (u : Int)] w fun e w' => e = .returned (.int .u64 (pv : Int)) ∧ Below w.heap.size w w'))
  have KM := Aside0.mk (fun w => frame_May.calls k c v s g ca t b d q u true w hM)
  have KB := Aside0.mk (fun w => (frame_bit.calls b nb w hnb).mono (R' := fun r w' => r = .returned (.int .u64 (nb : Int)) ∧ Below w.heap.size w w') fun _ _ ⟨a, h⟩ => ⟨a, h.below⟩)
  have KD := Aside0.mk (fun w => (frame_bit.calls d nd w hnd).mono (R' := fun r w' => r = .returned (.int .u64 (nd : Int)) ∧ Below w.heap.size w w') fun _ _ ⟨a, h⟩ => ⟨a, h.below⟩)
  have wu : ∀ n : Nat, n < 2 ^ 62 → IntKind.u64.wrap (n : Int) = (n : Int) := fun n h => wrap_u64_in _ (by omega) (by omega)
  have HW := Aside0.mk (And.intro (wu ca (by omega)) (And.intro (wu u (by omega)) (wu q hq)))
  have hwk := wu k hk
  have hwc := wu c hc
  have hwv := wu v hv
  have hws := wu s hs
  have hwg := wu g hg
  have hwt := wu t ht
  have GL0 := Aside0.mk gl
  have GLW := Aside0.mk gl
  have HSW := Aside0.mk gl.size
  clear hnb hnd hk hc hv hs hg hca ht hq hu hpv hM gl wu hp1 hp2 hp3 hp4 hp5 hp6 hp7 hp8
  have hu24 := Tryd.underlying24
  have hu28 := Tryd.underlying28
  go_enter Tryd.func14, Tryd.ntmps14
  go_upto_region 1 with fail
  obtain ⟨bx, hbx⟩ : ∃ b, W.heap.size = b := ⟨_, rfl⟩
  obtain ⟨br, hbr⟩ : ∃ b, bx + 1 = b := ⟨_, rfl⟩
  rw [hbx, hbr]
  obtain ⟨w0, hw0⟩ : ∃ w0, ((W.alloc (.cells #[.int .i64 (k : Int), .int .i64 (c : Int), .int .i64 (v : Int), .int .i64 (s : Int), .int .i64 (g : Int), .int .u32 (ca : Int), .int .i64 (t : Int), .bool b, .bool d, .int .i64 (q : Int), .int .u32 (u : Int)] 24)).alloc (.cells #[.int .u64 0, .int .u64 0, .int .u64 0] 28)) = w0 := ⟨_, rfl⟩
  have hs0 : w0.heap.size = br + 1 := by rw [← hw0, ← hbr, ← hbx]; simp only [World.alloc, Array.size_push]
  have HX := Aside0.mk (show HoldsV 24 w0 bx [.int .i64 (k : Int), .int .i64 (c : Int), .int .i64 (v : Int), .int .i64 (s : Int), .int .i64 (g : Int), .int .u32 (ca : Int), .int .i64 (t : Int), .bool b, .bool d, .int .i64 (q : Int), .int .u32 (u : Int)] by rw [← hw0, ← hbx]; exact heap_old (heap_new _ _))
  have HR := Aside0.mk (show HoldsV 28 w0 br [.int .u64 0, .int .u64 0, .int .u64 0] by rw [← hw0, ← hbr, ← hbx]; exact heap_new' (w := W.alloc _) _ (Array.size_push ..))
  have HB := Aside0.mk (show Below W.heap.size W w0 by rw [← hw0]; exact ((Below.refl _ _).alloc (Nat.le_refl _) _).alloc (by simp only [World.alloc, Array.size_push]; omega) _)
  have GL := Aside0.mk (GL0.out.below HB.out GL0.out.size)
  have HS := Aside0.mk (show 10 < w0.heap.size by have := GL0.out.size; omega)
  have HBR := Aside0.mk (show W.heap.size ≤ br by omega)
  have HNE := Aside0.mk (show bx ≠ br by omega)
  rw [hw0]
  clear hw0 hbx hbr GL0
  have cx0 := HX.out.cell 0; have cx1 := HX.out.cell 1; have cx2 := HX.out.cell 2; have cx3 := HX.out.cell 3; have cx4 := HX.out.cell 4; have cx5 := HX.out.cell 5; have cx6 := HX.out.cell 6; have cx7 := HX.out.cell 7; have cx8 := HX.out.cell 8; have cx9 := HX.out.cell 9; have cx10 := HX.out.cell 10; simp only [List.getElem?_cons_zero, List.getElem?_cons_succ] at cx0 cx1 cx2 cx3 cx4 cx5 cx6 cx7 cx8 cx9 cx10
  go_upto_if 7 with fail
  refine (KM.out _).mono ?_
  rintro e w1 ⟨rfl, hb9⟩
  have B1 := Aside0.mk hb9
  clear hb9 cx0 cx1 cx2 cx3 cx4 cx5 cx6 cx7 cx8 cx9 cx10
  go_upto_region 3 with fail
  obtain ⟨ga, gb⟩ := (GL.out.below B1.out HS.out).c0
  have cx := (HX.out.below B1.out HX.out.lt).cell 0
  simp only [List.getElem?_cons_zero, List.getElem?_cons_succ] at cx
  go_wp2_with fail
  refine (KP1.out _).mono ?_
  rintro e w2 ⟨rfl, hb9⟩
  have B2 := Aside0.mk (B1.out.trans (hb9.mono B1.out.size))
  clear hb9 ga gb cx
  obtain ⟨ga, gb⟩ := (GL.out.below B2.out HS.out).c1
  have cx := (HX.out.below B2.out HX.out.lt).cell 1
  simp only [List.getElem?_cons_zero, List.getElem?_cons_succ] at cx
  go_wp2_with fail
  refine (KP2.out _).mono ?_
  rintro e w3 ⟨rfl, hb9⟩
  have B3 := Aside0.mk (B2.out.trans (hb9.mono B2.out.size))
  clear hb9 ga gb cx
  obtain ⟨ga, gb⟩ := (GL.out.below B3.out HS.out).c2
  have cx := (HX.out.below B3.out HX.out.lt).cell 2
  simp only [List.getElem?_cons_zero, List.getElem?_cons_succ] at cx
  go_wp2_with fail
  refine (KP3.out _).mono ?_
  rintro e w4 ⟨rfl, hb9⟩
  have B4 := Aside0.mk (B3.out.trans (hb9.mono B3.out.size))
  clear hb9 ga gb cx
  obtain ⟨ga, gb⟩ := (GL.out.below B4.out HS.out).c3
  have cx := (HX.out.below B4.out HX.out.lt).cell 3
  simp only [List.getElem?_cons_zero, List.getElem?_cons_succ] at cx
  go_wp2_with fail
  refine (KP4.out _).mono ?_
  rintro e w5 ⟨rfl, hb9⟩
  have B5 := Aside0.mk (B4.out.trans (hb9.mono B4.out.size))
  clear hb9 ga gb cx
  obtain ⟨ga, gb⟩ := (GL.out.below B5.out HS.out).c4
  have cx := (HX.out.below B5.out HX.out.lt).cell 6
  simp only [List.getElem?_cons_zero, List.getElem?_cons_succ] at cx
  go_wp2_with fail
  refine (KP5.out _).mono ?_
  rintro e w6 ⟨rfl, hb9⟩
  have B6 := Aside0.mk (B5.out.trans (hb9.mono B5.out.size))
  clear hb9 ga gb cx
  go_upto_region 8 with fail
  have GLn := Aside0.mk (GL.out.below B6.out HS.out)
  have HXn := Aside0.mk (HX.out.below B6.out HX.out.lt)
  have HSn := Aside0.mk (show 10 < w6.heap.size by have := B6.out.size; have := HS.out; omega)
  refine wp_region_below (by kernel_rfl) (by kernel_rfl) ?_
  repeat (go_big_quiet_step ((intro hw; first
    | (with_reducible rfl)
    | (go_at_call 48; exact q_below hw (KP6.out _))
    | (go_at_call 49; exact q_below hw (KB.out _))
    | (obtain ⟨ga, gb⟩ := (GLn.out.below hw HSn.out).c5
       simp only [ga, gb, Result.andThen_ok]; go_simp; first | rfl | exact ⟨rfl, rfl⟩)
    | (have cx := (HXn.out.below hw HXn.out.lt).cell 7
       simp only [List.getElem?_cons_zero, List.getElem?_cons_succ] at cx
       simp only [cx, Result.andThen_ok]; go_simp; first | rfl | exact ⟨rfl, rfl⟩))))
  refine wpQuiet_nil ?_
  intro w7 hb9
  have B7 := Aside0.mk (B6.out.trans (hb9.mono B6.out.size))
  clear hb9 GLn HXn HSn
  go_upto_region 9 with fail
  have GLn := Aside0.mk (GL.out.below B7.out HS.out)
  have HXn := Aside0.mk (HX.out.below B7.out HX.out.lt)
  have HSn := Aside0.mk (show 10 < w7.heap.size by have := B7.out.size; have := HS.out; omega)
  refine wp_region_below (by kernel_rfl) (by kernel_rfl) ?_
  repeat (go_big_quiet_step ((intro hw; first
    | (with_reducible rfl)
    | (go_at_call 48; exact q_below hw (KP7.out _))
    | (go_at_call 49; exact q_below hw (KD.out _))
    | (obtain ⟨ga, gb⟩ := (GLn.out.below hw HSn.out).c6
       simp only [ga, gb, Result.andThen_ok]; go_simp; first | rfl | exact ⟨rfl, rfl⟩)
    | (have cx := (HXn.out.below hw HXn.out.lt).cell 8
       simp only [List.getElem?_cons_zero, List.getElem?_cons_succ] at cx
       simp only [cx, Result.andThen_ok]; go_simp; first | rfl | exact ⟨rfl, rfl⟩))))
  refine wpQuiet_nil ?_
  intro w8 hb9
  have B8 := Aside0.mk (B7.out.trans (hb9.mono B7.out.size))
  clear hb9 GLn HXn HSn
  go_upto_region 10 with fail
  go_cut [4] from 5 to 55 (fun v4 wx => v4 = .int .u64 (p8 : Int) ∧ Below w0.heap.size w0 wx)
  case first =>
    obtain ⟨ga, gb⟩ := (GL.out.below B8.out HS.out).c7
    have cx := (HX.out.below B8.out HX.out.lt).cell 4
    simp only [List.getElem?_cons_zero, List.getElem?_cons_succ] at cx
    go_wp2_with fail
    refine (KP8.out _).mono ?_
    rintro e w9 ⟨rfl, hb9⟩
    have B9 := Aside0.mk (B8.out.trans (hb9.mono B8.out.size))
    go_wp2_with fail
    go_meet
    exact ⟨rfl, B9.out⟩
  case rest =>
    obtain ⟨rfl, hbx⟩ := hcut
    rename_i w10
    have hbw := HB.out.trans (hbx.mono HB.out.size)
    have hv : HoldsV 28 wc br [.int .u64 0, .int .u64 0, .int .u64 0] := HR.out.below hbx HR.out.lt
    have HXW := Aside0.mk (HX.out.below hbx HX.out.lt)
    clear hbx
    go_upto_region 11 with fail
    refine RegInv.wp_region_steps (I := fun D a w => ∃ u56 u57 u58 u59 u60 u61 u62 u63 u64 u65 u66 u67 u68 u3, a = ⟨(.agg #[.int .i64 (k : Int), .int .i64 (c : Int), .int .i64 (v : Int), .int .i64 (s : Int), .int .i64 (g : Int), .int .u32 (ca : Int), .int .i64 (t : Int), .bool b, .bool d, .int .i64 (q : Int), .int .u32 (u : Int)] :: .pointer (some ⟨bx, 0, none⟩) :: .pointer (some ⟨br, 0, none⟩) :: u3 :: .int .u64 (p8 : Int) :: u5 :: u6 :: u7 :: u8 :: u9 :: u10 :: u11 :: u12 :: u13 :: u14 :: u15 :: u16 :: u17 :: u18 :: u19 :: u20 :: u21 :: u22 :: u23 :: u24 :: u25 :: u26 :: u27 :: u28 :: u29 :: u30 :: u31 :: u32 :: u33 :: u34 :: u35 :: u36 :: u37 :: u38 :: u39 :: u40 :: u41 :: u42 :: u43 :: u44 :: u45 :: u46 :: u47 :: u48 :: u49 :: u50 :: u51 :: u52 :: u53 :: u54 :: u55 :: u56 :: u57 :: u58 :: u59 :: u60 :: u61 :: u62 :: u63 :: u64 :: u65 :: u66 :: u67 :: u68 :: []).toArray, []⟩ ∧ RP bx br k c v s g ca t q u p8 pv b d W D u56 u57 u58 u59 u60 u61 u62 u63 u64 u65 u66 u67 u68 u3 w) (by kernel_rfl) (by kernel_rfl) ?_ ?_ ?_
    · exact ⟨_, _, _, _, _, _, _, _, _, _, _, _, _, _, rfl, ⟨hbw.drew, fun h => (by cases h), fun h => (by cases h), fun h => (by cases h), fun h => (by cases h), fun h => (by cases h), fun h => (by cases h), fun h => (by cases h), fun h => (by cases h), fun h => (by cases h), fun h => (by cases h), fun h => (by cases h), fun h => (by cases h), fun h => (by cases h), fun h => (by cases h), HXW.out, hv⟩⟩
    · rintro D a w ⟨u56, u57, u58, u59, u60, u61, u62, u63, u64, u65, u66, u67, u68, u3, rfl, hR⟩ hall
      obtain rfl := hR.h0 (hall 0 (by decide))
      obtain rfl := hR.h1 (hall 1 (by decide))
      obtain rfl := hR.h2 (hall 2 (by decide))
      obtain rfl := hR.h3 (hall 3 (by decide))
      obtain rfl := hR.h4 (hall 4 (by decide))
      obtain rfl := hR.h5 (hall 5 (by decide))
      obtain rfl := hR.h6 (hall 6 (by decide))
      obtain rfl := hR.h7 (hall 7 (by decide))
      obtain rfl := hR.h8 (hall 8 (by decide))
      obtain rfl := hR.h9 (hall 9 (by decide))
      obtain rfl := hR.h10 (hall 10 (by decide))
      obtain rfl := hR.h11 (hall 11 (by decide))
      obtain rfl := hR.h12 (hall 12 (by decide))
      obtain rfl := hR.h14 (hall 14 (by decide))
      have hv := hR.v
      rw [if_pos (hall 13 (by decide))] at hv
      have hb := hR.below
      (try simp only [Exit.inBlock, Exit.then])
      go_wp2_with fail
      refine bodyPost_ret (results_ct rfl _ _ br 28 ([.int .u64 (p8 : Int), .int .u64 (pv : Int), .int .u64 (q : Int)] : List Value).toArray (0, 0) _ rfl hv Tryd.underlying28 rfl (by kernel_rfl)) rfl ?_
      exact ⟨rfl, hb⟩
    · refine RegInv.Steps.cons (fun D a w hI hD hdep K hK => ?_) ?_
      · obtain ⟨u56, u57, u58, u59, u60, u61, u62, u63, u64, u65, u66, u67, u68, u3, rfl, hR⟩ := hI
        rw [if_pos (by rfl)]
        go_simp
        exact hK.out _ _ ⟨_, _, _, _, _, _, _, _, _, _, _, _, _, _, rfl, ⟨hR.below, fun _ => rfl, hR.h1, hR.h2, hR.h3, hR.h4, hR.h5, hR.h6, hR.h7, hR.h8, hR.h9, hR.h10, hR.h11, hR.h12, hR.h14, hR.x, hR.v⟩⟩
      refine RegInv.Steps.cons (fun D a w hI hD hdep K hK => ?_) ?_
      · obtain ⟨u56, u57, u58, u59, u60, u61, u62, u63, u64, u65, u66, u67, u68, u3, rfl, hR⟩ := hI
        obtain ⟨ga, gb⟩ := (GLW.out.below hR.below HSW.out).c8
        rw [if_pos (by rfl)]
        go_simp
        exact hK.out _ _ ⟨_, _, _, _, _, _, _, _, _, _, _, _, _, _, rfl, ⟨hR.below, hR.h0, fun _ => rfl, hR.h2, hR.h3, hR.h4, hR.h5, hR.h6, hR.h7, hR.h8, hR.h9, hR.h10, hR.h11, hR.h12, hR.h14, hR.x, hR.v⟩⟩
      refine RegInv.Steps.cons (fun D a w hI hD hdep K hK => ?_) ?_
      · obtain ⟨u56, u57, u58, u59, u60, u61, u62, u63, u64, u65, u66, u67, u68, u3, rfl, hR⟩ := hI
        rw [if_pos (by rfl)]
        go_simp
        exact hK.out _ _ ⟨_, _, _, _, _, _, _, _, _, _, _, _, _, _, rfl, ⟨hR.below, hR.h0, hR.h1, fun _ => rfl, hR.h3, hR.h4, hR.h5, hR.h6, hR.h7, hR.h8, hR.h9, hR.h10, hR.h11, hR.h12, hR.h14, hR.x, hR.v⟩⟩
      refine RegInv.Steps.cons (fun D a w hI hD hdep K hK => ?_) ?_
      · obtain ⟨u56, u57, u58, u59, u60, u61, u62, u63, u64, u65, u66, u67, u68, u3, rfl, hR⟩ := hI
        have d2 : D 2 = true := hdep ⟨2, .data⟩ (by simp) rfl
        obtain rfl := hR.h2 d2
        have cx := hR.x.cell 5
        simp only [List.getElem?_cons_zero, List.getElem?_cons_succ] at cx
        rw [if_pos (by rfl)]
        go_simp
        exact hK.out _ _ ⟨_, _, _, _, _, _, _, _, _, _, _, _, _, _, rfl, ⟨hR.below, hR.h0, hR.h1, hR.h2, fun _ => rfl, hR.h4, hR.h5, hR.h6, hR.h7, hR.h8, hR.h9, hR.h10, hR.h11, hR.h12, hR.h14, hR.x, hR.v⟩⟩
      refine RegInv.Steps.cons (fun D a w hI hD hdep K hK => ?_) ?_
      · obtain ⟨u56, u57, u58, u59, u60, u61, u62, u63, u64, u65, u66, u67, u68, u3, rfl, hR⟩ := hI
        have d3 : D 3 = true := hdep ⟨3, .data⟩ (by simp) rfl
        obtain rfl := hR.h3 d3
        have hb := HW.out.1
        rw [if_pos (by rfl)]
        go_simp
        exact hK.out _ _ ⟨_, _, _, _, _, _, _, _, _, _, _, _, _, _, rfl, ⟨hR.below, hR.h0, hR.h1, hR.h2, hR.h3, fun _ => rfl, hR.h5, hR.h6, hR.h7, hR.h8, hR.h9, hR.h10, hR.h11, hR.h12, hR.h14, hR.x, hR.v⟩⟩
      refine RegInv.Steps.cons (fun D a w hI hD hdep K hK => ?_) ?_
      · obtain ⟨u56, u57, u58, u59, u60, u61, u62, u63, u64, u65, u66, u67, u68, u3, rfl, hR⟩ := hI
        rw [if_pos (by rfl)]
        go_simp
        exact hK.out _ _ ⟨_, _, _, _, _, _, _, _, _, _, _, _, _, _, rfl, ⟨hR.below, hR.h0, hR.h1, hR.h2, hR.h3, hR.h4, fun _ => rfl, hR.h6, hR.h7, hR.h8, hR.h9, hR.h10, hR.h11, hR.h12, hR.h14, hR.x, hR.v⟩⟩
      refine RegInv.Steps.cons (fun D a w hI hD hdep K hK => ?_) ?_
      · obtain ⟨u56, u57, u58, u59, u60, u61, u62, u63, u64, u65, u66, u67, u68, u3, rfl, hR⟩ := hI
        have d5 : D 5 = true := hdep ⟨5, .data⟩ (by simp) rfl
        obtain rfl := hR.h5 d5
        have cx := hR.x.cell 10
        simp only [List.getElem?_cons_zero, List.getElem?_cons_succ] at cx
        rw [if_pos (by rfl)]
        go_simp
        exact hK.out _ _ ⟨_, _, _, _, _, _, _, _, _, _, _, _, _, _, rfl, ⟨hR.below, hR.h0, hR.h1, hR.h2, hR.h3, hR.h4, hR.h5, fun _ => rfl, hR.h7, hR.h8, hR.h9, hR.h10, hR.h11, hR.h12, hR.h14, hR.x, hR.v⟩⟩
      refine RegInv.Steps.cons (fun D a w hI hD hdep K hK => ?_) ?_
      · obtain ⟨u56, u57, u58, u59, u60, u61, u62, u63, u64, u65, u66, u67, u68, u3, rfl, hR⟩ := hI
        have d6 : D 6 = true := hdep ⟨6, .data⟩ (by simp) rfl
        obtain rfl := hR.h6 d6
        have hb := HW.out.2.1
        rw [if_pos (by rfl)]
        go_simp
        exact hK.out _ _ ⟨_, _, _, _, _, _, _, _, _, _, _, _, _, _, rfl, ⟨hR.below, hR.h0, hR.h1, hR.h2, hR.h3, hR.h4, hR.h5, hR.h6, fun _ => rfl, hR.h8, hR.h9, hR.h10, hR.h11, hR.h12, hR.h14, hR.x, hR.v⟩⟩
      refine RegInv.Steps.cons (fun D a w hI hD hdep K hK => ?_) ?_
      · obtain ⟨u56, u57, u58, u59, u60, u61, u62, u63, u64, u65, u66, u67, u68, u3, rfl, hR⟩ := hI
        have d1 : D 1 = true := hdep ⟨1, .data⟩ (by simp) rfl
        obtain rfl := hR.h1 d1
        have d4 : D 4 = true := hdep ⟨4, .data⟩ (by simp) rfl
        obtain rfl := hR.h4 d4
        have d7 : D 7 = true := hdep ⟨7, .data⟩ (by simp) rfl
        obtain rfl := hR.h7 d7
        rw [if_pos (by rfl)]
        go_simp
        with_reducible refine ((KV.out _)).mono ?_
        rintro e w9 ⟨rfl, hb9⟩
        exact hK.out _ _ ⟨_, _, _, _, _, _, _, _, _, _, _, _, _, _, rfl, ⟨hR.below.trans (hb9.mono hR.below.size), hR.h0, hR.h1, hR.h2, hR.h3, hR.h4, hR.h5, hR.h6, hR.h7, fun _ => rfl, hR.h9, hR.h10, hR.h11, hR.h12, hR.h14, hR.x.below' hb9, hR.v.below' hb9⟩⟩
      refine RegInv.Steps.cons (fun D a w hI hD hdep K hK => ?_) ?_
      · obtain ⟨u56, u57, u58, u59, u60, u61, u62, u63, u64, u65, u66, u67, u68, u3, rfl, hR⟩ := hI
        rw [if_pos (by rfl)]
        go_simp
        exact hK.out _ _ ⟨_, _, _, _, _, _, _, _, _, _, _, _, _, _, rfl, ⟨hR.below, hR.h0, hR.h1, hR.h2, hR.h3, hR.h4, hR.h5, hR.h6, hR.h7, hR.h8, fun _ => rfl, hR.h10, hR.h11, hR.h12, hR.h14, hR.x, hR.v⟩⟩
      refine RegInv.Steps.cons (fun D a w hI hD hdep K hK => ?_) ?_
      · obtain ⟨u56, u57, u58, u59, u60, u61, u62, u63, u64, u65, u66, u67, u68, u3, rfl, hR⟩ := hI
        have d9 : D 9 = true := hdep ⟨9, .data⟩ (by simp) rfl
        obtain rfl := hR.h9 d9
        have cx := hR.x.cell 9
        simp only [List.getElem?_cons_zero, List.getElem?_cons_succ] at cx
        rw [if_pos (by rfl)]
        go_simp
        exact hK.out _ _ ⟨_, _, _, _, _, _, _, _, _, _, _, _, _, _, rfl, ⟨hR.below, hR.h0, hR.h1, hR.h2, hR.h3, hR.h4, hR.h5, hR.h6, hR.h7, hR.h8, hR.h9, fun _ => rfl, hR.h11, hR.h12, hR.h14, hR.x, hR.v⟩⟩
      refine RegInv.Steps.cons (fun D a w hI hD hdep K hK => ?_) ?_
      · obtain ⟨u56, u57, u58, u59, u60, u61, u62, u63, u64, u65, u66, u67, u68, u3, rfl, hR⟩ := hI
        have d10 : D 10 = true := hdep ⟨10, .data⟩ (by simp) rfl
        obtain rfl := hR.h10 d10
        have hb := HW.out.2.2
        rw [if_pos (by rfl)]
        go_simp
        exact hK.out _ _ ⟨_, _, _, _, _, _, _, _, _, _, _, _, _, _, rfl, ⟨hR.below, hR.h0, hR.h1, hR.h2, hR.h3, hR.h4, hR.h5, hR.h6, hR.h7, hR.h8, hR.h9, hR.h10, fun _ => rfl, hR.h12, hR.h14, hR.x, hR.v⟩⟩
      refine RegInv.Steps.cons (fun D a w hI hD hdep K hK => ?_) ?_
      · obtain ⟨u56, u57, u58, u59, u60, u61, u62, u63, u64, u65, u66, u67, u68, u3, rfl, hR⟩ := hI
        have d0 : D 0 = true := hdep ⟨0, .data⟩ (by simp) rfl
        obtain rfl := hR.h0 d0
        have d8 : D 8 = true := hdep ⟨8, .data⟩ (by simp) rfl
        obtain rfl := hR.h8 d8
        have d11 : D 11 = true := hdep ⟨11, .data⟩ (by simp) rfl
        obtain rfl := hR.h11 d11
        rw [if_pos (by rfl)]
        go_simp
        exact hK.out _ _ ⟨_, _, _, _, _, _, _, _, _, _, _, _, _, _, rfl, ⟨hR.below, hR.h0, hR.h1, hR.h2, hR.h3, hR.h4, hR.h5, hR.h6, hR.h7, hR.h8, hR.h9, hR.h10, hR.h11, fun _ => rfl, hR.h14, hR.x, hR.v⟩⟩
      refine RegInv.Steps.cons (fun D a w hI hD hdep K hK => ?_) ?_
      · obtain ⟨u56, u57, u58, u59, u60, u61, u62, u63, u64, u65, u66, u67, u68, u3, rfl, hR⟩ := hI
        have d12 : D 12 = true := hdep ⟨12, .data⟩ (by simp) rfl
        obtain rfl := hR.h12 d12
        rw [if_pos (by rfl)]
        refine wp_store_row 28 (.tmp 2) (.tmp 68) rfl br _ rfl rfl 28 _ hR.v (by kernel_rfl) (by split <;> rfl) (by kernel_rfl) ?_
        exact hK.out _ _ ⟨_, _, _, _, _, _, _, _, _, _, _, _, _, _, rfl, ⟨below_setRow hR.below HBR.out _, hR.h0, hR.h1, hR.h2, hR.h3, hR.h4, hR.h5, hR.h6, hR.h7, hR.h8, hR.h9, hR.h10, hR.h11, hR.h12, hR.h14, (setRow_other w br bx _ (by have := HNE.out; omega)).trans hR.x, by rw [RegInv.upd_at, if_pos rfl]; exact setRow_heap _ br _ _ 28 (0, 0) hR.v⟩⟩
      refine RegInv.Steps.cons (fun D a w hI hD hdep K hK => ?_) ?_
      · obtain ⟨u56, u57, u58, u59, u60, u61, u62, u63, u64, u65, u66, u67, u68, u3, rfl, hR⟩ := hI
        rw [if_pos (by rfl)]
        go_simp
        exact hK.out _ _ ⟨_, _, _, _, _, _, _, _, _, _, _, _, _, _, rfl, ⟨hR.below, hR.h0, hR.h1, hR.h2, hR.h3, hR.h4, hR.h5, hR.h6, hR.h7, hR.h8, hR.h9, hR.h10, hR.h11, hR.h12, fun _ => rfl, hR.x, hR.v⟩⟩
      exact RegInv.Steps.nil


set_option maxHeartbeats 8000000 in
set_option maxRecDepth 100000 in
theorem put_none (k c v s g ca t q u : Int) (b d : Bool) (hM : frame_May.f k c v s g ca t b d q u = some false) (W : World) : Calls Tryd.prog 14 #[.agg #[.int .i64 k, .int .i64 c, .int .i64 v, .int .i64 s, .int .i64 g, .int .u32 ca, .int .i64 t, .bool b, .bool d, .int .i64 q, .int .u32 u]] W fun r w' => r = .returned (.tuple #[.agg #[.int .u64 0, .int .u64 0, .int .u64 0], .bool false]) ∧ Below W.heap.size W w' := by
  have KM := Aside0.mk (fun w => frame_May.calls k c v s g ca t b d q u false w hM)
  clear hM
  have hu24 := Tryd.underlying24
  have hu28 := Tryd.underlying28
  go_enter Tryd.func14, Tryd.ntmps14
  go_upto_region 1 with fail
  obtain ⟨w0, hw0⟩ : ∃ w0, ((W.alloc (.cells #[.int .i64 k, .int .i64 c, .int .i64 v, .int .i64 s, .int .i64 g, .int .u32 ca, .int .i64 t, .bool b, .bool d, .int .i64 q, .int .u32 u] 24)).alloc (.cells #[.int .u64 0, .int .u64 0, .int .u64 0] 28)) = w0 := ⟨_, rfl⟩
  have HX := Aside0.mk (show HoldsV 24 w0 W.heap.size [.int .i64 k, .int .i64 c, .int .i64 v, .int .i64 s, .int .i64 g, .int .u32 ca, .int .i64 t, .bool b, .bool d, .int .i64 q, .int .u32 u] by rw [← hw0]; exact heap_old (heap_new _ _))
  have HR := Aside0.mk (show HoldsV 28 w0 (W.heap.size + 1) [.int .u64 0, .int .u64 0, .int .u64 0] by rw [← hw0]; exact heap_new' (w := W.alloc _) _ (Array.size_push ..))
  have HB := Aside0.mk (show Below W.heap.size W w0 by rw [← hw0]; exact ((Below.refl _ _).alloc (Nat.le_refl _) _).alloc (by simp only [World.alloc, Array.size_push]; omega) _)
  rw [hw0]
  clear hw0
  have cx0 := HX.out.cell 0; have cx1 := HX.out.cell 1; have cx2 := HX.out.cell 2; have cx3 := HX.out.cell 3; have cx4 := HX.out.cell 4; have cx5 := HX.out.cell 5; have cx6 := HX.out.cell 6; have cx7 := HX.out.cell 7; have cx8 := HX.out.cell 8; have cx9 := HX.out.cell 9; have cx10 := HX.out.cell 10; simp only [List.getElem?_cons_zero, List.getElem?_cons_succ] at cx0 cx1 cx2 cx3 cx4 cx5 cx6 cx7 cx8 cx9 cx10
  go_upto_if 7 with fail
  refine (KM.out _).mono ?_
  rintro e w1 ⟨rfl, hb9⟩
  have B1 := Aside0.mk hb9
  clear hb9
  go_wp2_with (first | ((with_reducible refine gate_store (t := 28) (p := 2) (v := .tmp 8) rfl ?_); refine wpList_store_row rfl 28 (.tmp 2) (.tmp 8) rfl (W.heap.size + 1) ([.int .u64 0, .int .u64 0, .int .u64 0] : List Value).toArray rfl rfl 28 _ (HR.out.below B1.out HR.out.lt) (by kernel_rfl) rfl (by kernel_rfl) ?_))
  refine bodyPost_ret (results_ct rfl _ _ (W.heap.size + 1) 28 ([.int .u64 0, .int .u64 0, .int .u64 0] : List Value).toArray (0, 0) _ rfl (setRow_heap _ _ _ _ 28 (0, 0) (HR.out.below B1.out HR.out.lt)) Tryd.underlying28 rfl (by kernel_rfl)) rfl ?_
  exact ⟨rfl, below_setRow (HB.out.trans (B1.out.mono HB.out.size)) (by omega) _⟩
end Go.Proofs.YthonkcldddfpnaaDoor.FrameP
