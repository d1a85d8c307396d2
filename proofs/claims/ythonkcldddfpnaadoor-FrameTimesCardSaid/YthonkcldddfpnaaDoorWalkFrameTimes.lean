/- A frame tells a time: the walk of FrameTimes. -/
import Derived.Test.YthonkcldddfpnaaDoorFrameA
import Derived.Test.YthonkcldddfpnaaDoorNear
import Derived.Test.YthonkcldddfpnaaDoorPFrameTimesx1
import Derived.Deep.WholeRow
namespace Go.Proofs.YthonkcldddfpnaaDoor.walkFrameTimes
open Go.RowKit Go.Proofs.YthonkcldddfpnaaDoor.PFrameTimes Go.Proofs.YthonkcldddfpnaaDoorW.PrintWords Go.Proofs.YthonkcldddfpnaaDoorW.PrintLast Go.Proofs.YthonkcldddfpnaaDoorW.PrintMore Go.Proofs.YthonkcldddfpnaaDoor.Aid Go.Proofs.YthonkcldddfpnaaDoor.Quiet Go.Proofs.YthonkcldddfpnaaDoor.Blk Go.Proofs.YthonkcldddfpnaaDoor.State Go.Proofs.YthonkcldddfpnaaDoor.Vals Go.Proofs.YthonkcldddfpnaaDoor.LaidFrame Go.Proofs.YthonkcldddfpnaaDoor.Near
set_option linter.unusedVariables false
set_option linter.unusedSimpArgs false
attribute [local go_sem] max2_int min2_int max_two min_two
theorem eqA24 (d : Nat) (w : World) (x0 y0 : Int) (x1 y1 : Int) (x2 y2 : Int) (x3 y3 : Int) (x4 y4 : Int) (x5 y5 : Int) (x6 y6 : Int) (x7 y7 : Bool) (x8 y8 : Bool) (x9 y9 : Int) (x10 y10 : Int) :
    (Op.equalIn (d + 2) 24 (.agg #[.int .i64 x0, .int .i64 x1, .int .i64 x2, .int .i64 x3, .int .i64 x4, .int .u32 x5, .int .i64 x6, .bool x7, .bool x8, .int .i64 x9, .int .u32 x10]) (.agg #[.int .i64 y0, .int .i64 y1, .int .i64 y2, .int .i64 y3, .int .i64 y4, .int .u32 y5, .int .i64 y6, .bool y7, .bool y8, .int .i64 y9, .int .u32 y10])).run Tryd.prog w = .ok (x0 == y0 && (x1 == y1 && (x2 == y2 && (x3 == y3 && (x4 == y4 && (x5 == y5 && (x6 == y6 && (x7 == y7 && (x8 == y8 && (x9 == y9 && (x10 == y10))))))))))) w := by
  refine eqA_of Tryd.underlying24 (by kernel_rfl) ?_
  refine eqf_cons (by rfl) (by go_simp; rfl) (by go_simp; rfl) (by go_simp) ?_
  refine eqf_cons (by rfl) (by go_simp; rfl) (by go_simp; rfl) (by go_simp) ?_
  refine eqf_cons (by rfl) (by go_simp; rfl) (by go_simp; rfl) (by go_simp) ?_
  refine eqf_cons (by rfl) (by go_simp; rfl) (by go_simp; rfl) (by go_simp) ?_
  refine eqf_cons (by rfl) (by go_simp; rfl) (by go_simp; rfl) (by go_simp) ?_
  refine eqf_cons (by rfl) (by go_simp; rfl) (by go_simp; rfl) (by go_simp) ?_
  refine eqf_cons (by rfl) (by go_simp; rfl) (by go_simp; rfl) (by go_simp) ?_
  refine eqf_cons (by rfl) (by go_simp; rfl) (by go_simp; rfl) (by go_simp) ?_
  refine eqf_cons (by rfl) (by go_simp; rfl) (by go_simp; rfl) (by go_simp) ?_
  refine eqf_cons (by rfl) (by go_simp; rfl) (by go_simp; rfl) (by go_simp) ?_
  exact eqf_last (by rfl) (by go_simp; rfl) (by go_simp; rfl) (by go_simp)
attribute [local go_sem high] eqA24
theorem wpList_store_new {P : Program} {ops : Array Oper} {rest : List Oper} {o : Oper} {a : Act} {Q : Exit → Act → World → Prop} {w : World} (hgd : o.guard = none) (ty : TypeId) (x y : Operand) (ho : o.op = .store ty x y)
    (g : Nat) (hgs : w.heap.size = g) (c cells : Array Value) (hx : a.eval x = .pointer (some ⟨g, 0, none⟩)) (hy : a.eval y = .agg cells) (hi : (P.info? ty).map (·.size) = some cells.size) (hold : c.size = cells.size) (h1 : cells.all (·.oneCell') = true)
    (h : wpList P ops Q rest (a.put o.dst undef) (w.alloc (.cells cells ty))) : wpList P ops Q (o :: rest) a (w.alloc (.cells c ty)) := by
  subst hgs
  refine wpList_store_row hgd ty x y ho _ cells hx hy ty c (heap_alloc_last w _) hi hold h1 ?_
  rw [World.setRow_alloc_new]
  exact h
structure RT (b5 b6 b8 : Nat) (xk xc xv xs xg ca xt xq u yq yu : Int) (b d : Bool) (w0 : World) (D : Nat → Bool) (u18 u19 u20 u21 u22 u23 : Value) (w : World) : Prop where
  below : Below w0.heap.size w0 w
  h0 : D 0 = true → u18 = .pointer (some ⟨b5, 10, none⟩)
  h1 : D 1 = true → u19 = .int .u32 u
  h2 : D 2 = true → u20 = .pointer (some ⟨b5, 9, none⟩)
  h3 : D 3 = true → u21 = .int .i64 xq
  h4 : D 4 = true → u22 = .pointer (some ⟨b8, 10, none⟩)
  h6 : D 6 = true → u23 = .pointer (some ⟨b8, 9, none⟩)
  x5 : HoldsV 24 w b5 [.int .i64 xk, .int .i64 xc, .int .i64 xv, .int .i64 xs, .int .i64 xg, .int .u32 ca, .int .i64 xt, .bool b, .bool d, .int .i64 xq, .int .u32 u]
  x6 : HoldsV 24 w b6 [.int .i64 xk, .int .i64 xc, .int .i64 xv, .int .i64 xs, .int .i64 xg, .int .u32 ca, .int .i64 xt, .bool b, .bool d, .int .i64 yq, .int .u32 yu]
  v8 : HoldsV 24 w b8 [.int .i64 xk, .int .i64 xc, .int .i64 xv, .int .i64 xs, .int .i64 xg, .int .u32 ca, .int .i64 xt, .bool b, .bool d, .int .i64 (if D 7 = true then xq else yq), .int .u32 (if D 5 = true then u else yu)]

set_option maxHeartbeats 8000000 in
set_option maxRecDepth 100000 in
theorem core (K C V S G ca Tr : Int) (b d : Bool) (Q u tt : Int) (xk xc xv xs xg xt xq yq yu cl wt wx : Int)
    (NEAR : ∀ w, Calls Tryd.prog 13 #[.agg #[.int .i64 K, .int .i64 C, .int .i64 V, .int .i64 S, .int .i64 G, .int .u32 ca, .int .i64 Tr, .bool b, .bool d, .int .i64 Q, .int .u32 u], .int .i64 0] w fun e w' => e = .returned (.agg #[.int .i64 xk, .int .i64 xc, .int .i64 xv, .int .i64 xs, .int .i64 xg, .int .u32 ca, .int .i64 xt, .bool b, .bool d, .int .i64 xq, .int .u32 u]) ∧ Below w.heap.size w w')
    (hAt : frame_At.f xk xc xv xs xg ca xt b d xq u tt = some (xk, xc, xv, xs, xg, ca, xt, b, d, yq, yu)) (hcl : cablewayref03_Clamp.f tt = some cl) (hwt : (if 1099511627775 < cl then 1099511627775 else cl) = wt)
    (hWy : frame_When.f xk xc xv xs xg ca xt b d yq yu = some wt) (hWx : frame_When.f xk xc xv xs xg ca xt b d xq u = some wx) (hwx : 0 ≤ wx ∧ wx ≤ 1099511627776) (hM : frame_May.f xk xc xv xs xg ca xt b d yq yu = some true) (W : World) (gl : Cells W) :
    Calls Tryd.prog 5 #[.agg #[.int .i64 K, .int .i64 C, .int .i64 V, .int .i64 S, .int .i64 G, .int .u32 ca, .int .i64 Tr, .bool b, .bool d, .int .i64 Q, .int .u32 u], .int .i64 tt] W fun e W' => e = .returned (.bool true) ∧ Below W.heap.size W W' := by
  have KN := Aside0.mk NEAR
  have KA := Aside0.mk (fun w => frame_At.calls xk xc xv xs xg ca xt b d xq u tt _ _ _ _ _ _ _ _ _ _ _ w hAt)
  have KC := Aside0.mk (fun w => cablewayref03_Clamp.calls tt cl w hcl)
  have KWy := Aside0.mk (fun w => frame_When.calls xk xc xv xs xg ca xt b d yq yu wt w hWy)
  have KWx := Aside0.mk (fun w => frame_When.calls xk xc xv xs xg ca xt b d xq u wx w hWx)
  have KM := Aside0.mk (fun w => frame_May.calls xk xc xv xs xg ca xt b d yq yu true w hM)
  have GLW := Aside0.mk gl
  have HWX := Aside0.mk hwx
  clear NEAR hAt hcl hWy hWx hM gl hwx
  have hu24 := Tryd.underlying24
  go_enter Tryd.func5, Tryd.ntmps5
  go_upto_region 1 with fail
  go_upto_region 2 with (first | (go_at_call 13; refine (KN.out _).mono ?_; rintro e w1 ⟨rfl, hb1⟩; have B1 := Aside0.mk (((Below.refl W.heap.size W).alloc (Nat.le_refl _) _).trans (hb1.mono (by simp only [World.alloc, Array.size_push]; omega))); clear hb1) | ((with_reducible refine gate_store (t := 24) (p := 5) (v := .tmp 10) rfl ?_); refine wpList_store_new rfl 24 (.tmp 5) (.tmp 10) rfl _ rfl _ ([.int .i64 xk, .int .i64 xc, .int .i64 xv, .int .i64 xs, .int .i64 xg, .int .u32 ca, .int .i64 xt, .bool b, .bool d, .int .i64 xq, .int .u32 u] : List Value).toArray rfl rfl (by kernel_rfl) rfl (by kernel_rfl) ?_))
  obtain ⟨b5, hb5⟩ : ∃ b5, w1.heap.size = b5 := ⟨_, rfl⟩
  have H5 := Aside0.mk (show HoldsV 24 (w1.alloc (.cells ([.int .i64 xk, .int .i64 xc, .int .i64 xv, .int .i64 xs, .int .i64 xg, .int .u32 ca, .int .i64 xt, .bool b, .bool d, .int .i64 xq, .int .u32 u] : List Value).toArray 24)) b5 [.int .i64 xk, .int .i64 xc, .int .i64 xv, .int .i64 xs, .int .i64 xg, .int .u32 ca, .int .i64 xt, .bool b, .bool d, .int .i64 xq, .int .u32 u] by rw [← hb5]; exact heap_new _ _)
  have B2 := Aside0.mk (B1.out.alloc B1.out.size (.cells ([.int .i64 xk, .int .i64 xc, .int .i64 xv, .int .i64 xs, .int .i64 xg, .int .u32 ca, .int .i64 xt, .bool b, .bool d, .int .i64 xq, .int .u32 u] : List Value).toArray 24))
  have HB5 := Aside0.mk (show W.heap.size ≤ b5 by rw [← hb5]; exact B1.out.size)
  obtain ⟨w2, hw2⟩ : ∃ w2, w1.alloc (.cells ([.int .i64 xk, .int .i64 xc, .int .i64 xv, .int .i64 xs, .int .i64 xg, .int .u32 ca, .int .i64 xt, .bool b, .bool d, .int .i64 xq, .int .u32 u] : List Value).toArray 24) = w2 := ⟨_, rfl⟩
  rw [hw2] at H5 B2 ⊢
  rw [hb5]
  clear B1 hb5 hw2
  have cx0 := H5.out.cell 0; have cx1 := H5.out.cell 1; have cx2 := H5.out.cell 2; have cx3 := H5.out.cell 3; have cx4 := H5.out.cell 4; have cx5 := H5.out.cell 5; have cx6 := H5.out.cell 6; have cx7 := H5.out.cell 7; have cx8 := H5.out.cell 8; have cx9 := H5.out.cell 9; have cx10 := H5.out.cell 10; simp only [List.getElem?_cons_zero, List.getElem?_cons_succ] at cx0 cx1 cx2 cx3 cx4 cx5 cx6 cx7 cx8 cx9 cx10
  go_upto_region 4 with (first | (go_at_call 20; refine (KA.out _).mono ?_; rintro e w3 ⟨rfl, hb1⟩; have B3 := Aside0.mk (B2.out.trans (hb1.mono B2.out.size)); have H53 := Aside0.mk (H5.out.below' hb1); clear hb1) | ((with_reducible refine gate_store (t := 24) (p := 6) (v := .tmp 13) rfl ?_); refine wpList_store_new rfl 24 (.tmp 6) (.tmp 13) rfl _ rfl _ ([.int .i64 xk, .int .i64 xc, .int .i64 xv, .int .i64 xs, .int .i64 xg, .int .u32 ca, .int .i64 xt, .bool b, .bool d, .int .i64 yq, .int .u32 yu] : List Value).toArray rfl rfl (by kernel_rfl) rfl (by kernel_rfl) ?_) | (go_at_call 21; refine (KC.out _).mono ?_; rintro e w4 ⟨rfl, hb4⟩; obtain ⟨n4, rfl⟩ := hb4.out))
  obtain ⟨b6, hb6⟩ : ∃ b6, w3.heap.size = b6 := ⟨_, rfl⟩
  have H6 := Aside0.mk (show HoldsV 24 ((w3.alloc (.cells ([.int .i64 xk, .int .i64 xc, .int .i64 xv, .int .i64 xs, .int .i64 xg, .int .u32 ca, .int .i64 xt, .bool b, .bool d, .int .i64 yq, .int .u32 yu] : List Value).toArray 24)).drewN n4) b6 [.int .i64 xk, .int .i64 xc, .int .i64 xv, .int .i64 xs, .int .i64 xg, .int .u32 ca, .int .i64 xt, .bool b, .bool d, .int .i64 yq, .int .u32 yu] by rw [← hb6]; exact heap_new _ _)
  have H55 := Aside0.mk (show HoldsV 24 ((w3.alloc (.cells ([.int .i64 xk, .int .i64 xc, .int .i64 xv, .int .i64 xs, .int .i64 xg, .int .u32 ca, .int .i64 xt, .bool b, .bool d, .int .i64 yq, .int .u32 yu] : List Value).toArray 24)).drewN n4) b5 [.int .i64 xk, .int .i64 xc, .int .i64 xv, .int .i64 xs, .int .i64 xg, .int .u32 ca, .int .i64 xt, .bool b, .bool d, .int .i64 xq, .int .u32 u] from heap_old H53.out)
  have B4 := Aside0.mk (below_drewN (B3.out.alloc B3.out.size (.cells ([.int .i64 xk, .int .i64 xc, .int .i64 xv, .int .i64 xs, .int .i64 xg, .int .u32 ca, .int .i64 xt, .bool b, .bool d, .int .i64 yq, .int .u32 yu] : List Value).toArray 24)) n4)
  have HB6 := Aside0.mk (show W.heap.size ≤ b6 by rw [← hb6]; exact B3.out.size)
  have H56 := Aside0.mk (show b5 ≠ b6 by rw [← hb6]; exact Nat.ne_of_lt H53.out.lt)
  obtain ⟨w5, hw5⟩ : ∃ w5, (w3.alloc (.cells ([.int .i64 xk, .int .i64 xc, .int .i64 xv, .int .i64 xs, .int .i64 xg, .int .u32 ca, .int .i64 xt, .bool b, .bool d, .int .i64 yq, .int .u32 yu] : List Value).toArray 24)).drewN n4 = w5 := ⟨_, rfl⟩
  rw [hw5] at H6 H55 B4 ⊢
  rw [hb6]
  clear H5 H53 B2 B3 hb6 hw5 cx0 cx1 cx2 cx3 cx4 cx5 cx6 cx7 cx8 cx9 cx10
  have cx0 := H6.out.cell 0; have cx1 := H6.out.cell 1; have cx2 := H6.out.cell 2; have cx3 := H6.out.cell 3; have cx4 := H6.out.cell 4; have cx5 := H6.out.cell 5; have cx6 := H6.out.cell 6; have cx7 := H6.out.cell 7; have cx8 := H6.out.cell 8; have cx9 := H6.out.cell 9; have cx10 := H6.out.cell 10; simp only [List.getElem?_cons_zero, List.getElem?_cons_succ] at cx0 cx1 cx2 cx3 cx4 cx5 cx6 cx7 cx8 cx9 cx10
  go_cut [8] from 9 to 17 (fun p8 wx => ∃ b8, p8 = .pointer (some ⟨b8, 0, none⟩) ∧ (b5 ≠ b8 ∧ b6 ≠ b8 ∧ W.heap.size ≤ b8) ∧ HoldsV 24 wx b5 [.int .i64 xk, .int .i64 xc, .int .i64 xv, .int .i64 xs, .int .i64 xg, .int .u32 ca, .int .i64 xt, .bool b, .bool d, .int .i64 xq, .int .u32 u] ∧ HoldsV 24 wx b6 [.int .i64 xk, .int .i64 xc, .int .i64 xv, .int .i64 xs, .int .i64 xg, .int .u32 ca, .int .i64 xt, .bool b, .bool d, .int .i64 yq, .int .u32 yu] ∧ HoldsV 24 wx b8 [.int .i64 xk, .int .i64 xc, .int .i64 xv, .int .i64 xs, .int .i64 xg, .int .u32 ca, .int .i64 xt, .bool b, .bool d, .int .i64 yq, .int .u32 yu] ∧ Below W.heap.size W wx)
  case first =>
    go_wp2_with (first | ((with_reducible refine gate_store (t := 24) (p := 8) (v := .tmp 17) rfl ?_); refine wpList_store_new rfl 24 (.tmp 8) (.tmp 17) rfl _ rfl _ ([.int .i64 xk, .int .i64 xc, .int .i64 xv, .int .i64 xs, .int .i64 xg, .int .u32 ca, .int .i64 xt, .bool b, .bool d, .int .i64 yq, .int .u32 yu] : List Value).toArray rfl rfl (by kernel_rfl) rfl (by kernel_rfl) ?_))
    go_meet
    exact ⟨_, rfl, ⟨Nat.ne_of_lt H55.out.lt, Nat.ne_of_lt H6.out.lt, B4.out.size⟩, heap_old H55.out, heap_old H6.out, heap_new _ _, B4.out.alloc B4.out.size _⟩
  case rest =>
    obtain ⟨b8, rfl, hn, h5, h6, h8, hbw⟩ := hcut
    have HN := Aside0.mk hn
    clear hn cx0 cx1 cx2 cx3 cx4 cx5 cx6 cx7 cx8 cx9 cx10 B4 H6 H55
    go_upto_region 5 with fail
    go_cut [] from 18 to 23 (fun wx => HoldsV 24 wx b5 [.int .i64 xk, .int .i64 xc, .int .i64 xv, .int .i64 xs, .int .i64 xg, .int .u32 ca, .int .i64 xt, .bool b, .bool d, .int .i64 xq, .int .u32 u] ∧ HoldsV 24 wx b6 [.int .i64 xk, .int .i64 xc, .int .i64 xv, .int .i64 xs, .int .i64 xg, .int .u32 ca, .int .i64 xt, .bool b, .bool d, .int .i64 yq, .int .u32 yu] ∧ HoldsV 24 wx b8 [.int .i64 xk, .int .i64 xc, .int .i64 xv, .int .i64 xs, .int .i64 xg, .int .u32 ca, .int .i64 xt, .bool b, .bool d, .int .i64 xq, .int .u32 u] ∧ Below W.heap.size W wx)
    case first =>
      refine RegInv.wp_region_steps (I := fun D a w => ∃ u18 u19 u20 u21 u22 u23, a = ⟨(.agg #[.int .i64 K, .int .i64 C, .int .i64 V, .int .i64 S, .int .i64 G, .int .u32 ca, .int .i64 Tr, .bool b, .bool d, .int .i64 Q, .int .u32 u] :: .int .i64 tt :: .pointer (some ⟨W.heap.size, 0, none⟩) :: undef :: .bool false :: .pointer (some ⟨b5, 0, none⟩) :: .pointer (some ⟨b6, 0, none⟩) :: .int .i64 wt :: .pointer (some ⟨b8, 0, none⟩) :: u9 :: u10 :: u11 :: u12 :: u13 :: u14 :: u15 :: u16 :: u17 :: u18 :: u19 :: u20 :: u21 :: u22 :: u23 :: undef :: undef :: undef :: undef :: undef :: undef :: undef :: undef :: undef :: undef :: undef :: undef :: undef :: undef :: undef :: undef :: undef :: undef :: undef :: undef :: undef :: undef :: undef :: undef :: undef :: undef :: []).toArray, []⟩ ∧ RT b5 b6 b8 xk xc xv xs xg ca xt xq u yq yu b d W D u18 u19 u20 u21 u22 u23 w) (by kernel_rfl) (by kernel_rfl) ?_ ?_ ?_
      · exact ⟨_, _, _, _, _, _, rfl, ⟨hbw.drew, fun h => (by cases h), fun h => (by cases h), fun h => (by cases h), fun h => (by cases h), fun h => (by cases h), fun h => (by cases h), h5, h6, h8⟩⟩
      · rintro D a w ⟨u18, u19, u20, u21, u22, u23, rfl, hR⟩ hall
        obtain rfl := hR.h0 (hall 0 (by decide))
        obtain rfl := hR.h1 (hall 1 (by decide))
        obtain rfl := hR.h2 (hall 2 (by decide))
        obtain rfl := hR.h3 (hall 3 (by decide))
        obtain rfl := hR.h4 (hall 4 (by decide))
        obtain rfl := hR.h6 (hall 6 (by decide))
        have q5 := hR.x5
        have q6 := hR.x6
        have q8 := hR.v8
        simp only [hall 5 (by decide), hall 7 (by decide), if_true] at q8
        have hb := hR.below
        go_wp2_with fail
        go_meet
        exact ⟨q5, q6, q8, hb⟩
      · refine RegInv.Steps.cons (fun D a w hI hD hdep K hK => ?_) ?_
        · obtain ⟨u18, u19, u20, u21, u22, u23, rfl, hR⟩ := hI
          rw [if_pos (by rfl)]
          go_simp
          exact hK.out _ _ ⟨_, _, _, _, _, _, rfl, ⟨hR.below, fun _ => rfl, hR.h1, hR.h2, hR.h3, hR.h4, hR.h6, hR.x5, hR.x6, hR.v8⟩⟩
        refine RegInv.Steps.cons (fun D a w hI hD hdep K hK => ?_) ?_
        · obtain ⟨u18, u19, u20, u21, u22, u23, rfl, hR⟩ := hI
          have d0 : D 0 = true := hdep ⟨0, .data⟩ (by simp) rfl
          obtain rfl := hR.h0 d0
          have cx := hR.x5.cell 10
          simp only [List.getElem?_cons_zero, List.getElem?_cons_succ] at cx
          rw [if_pos (by rfl)]
          go_simp
          exact hK.out _ _ ⟨_, _, _, _, _, _, rfl, ⟨hR.below, hR.h0, fun _ => rfl, hR.h2, hR.h3, hR.h4, hR.h6, hR.x5, hR.x6, hR.v8⟩⟩
        refine RegInv.Steps.cons (fun D a w hI hD hdep K hK => ?_) ?_
        · obtain ⟨u18, u19, u20, u21, u22, u23, rfl, hR⟩ := hI
          rw [if_pos (by rfl)]
          go_simp
          exact hK.out _ _ ⟨_, _, _, _, _, _, rfl, ⟨hR.below, hR.h0, hR.h1, fun _ => rfl, hR.h3, hR.h4, hR.h6, hR.x5, hR.x6, hR.v8⟩⟩
        refine RegInv.Steps.cons (fun D a w hI hD hdep K hK => ?_) ?_
        · obtain ⟨u18, u19, u20, u21, u22, u23, rfl, hR⟩ := hI
          have d2 : D 2 = true := hdep ⟨2, .data⟩ (by simp) rfl
          obtain rfl := hR.h2 d2
          have cx := hR.x5.cell 9
          simp only [List.getElem?_cons_zero, List.getElem?_cons_succ] at cx
          rw [if_pos (by rfl)]
          go_simp
          exact hK.out _ _ ⟨_, _, _, _, _, _, rfl, ⟨hR.below, hR.h0, hR.h1, hR.h2, fun _ => rfl, hR.h4, hR.h6, hR.x5, hR.x6, hR.v8⟩⟩
        refine RegInv.Steps.cons (fun D a w hI hD hdep K hK => ?_) ?_
        · obtain ⟨u18, u19, u20, u21, u22, u23, rfl, hR⟩ := hI
          rw [if_pos (by rfl)]
          go_simp
          exact hK.out _ _ ⟨_, _, _, _, _, _, rfl, ⟨hR.below, hR.h0, hR.h1, hR.h2, hR.h3, fun _ => rfl, hR.h6, hR.x5, hR.x6, hR.v8⟩⟩
        refine RegInv.Steps.cons (fun D a w hI hD hdep K hK => ?_) ?_
        · obtain ⟨u18, u19, u20, u21, u22, u23, rfl, hR⟩ := hI
          have d4 : D 4 = true := hdep ⟨4, .data⟩ (by simp) rfl
          obtain rfl := hR.h4 d4
          have d1 : D 1 = true := hdep ⟨1, .data⟩ (by simp) rfl
          obtain rfl := hR.h1 d1
          have cc := hR.v8.cell 10
          simp only [List.getElem?_cons_zero, List.getElem?_cons_succ] at cc
          have fc := hR.v8.free 10
          rw [if_pos (by rfl)]
          go_simp
          exact hK.out _ _ ⟨_, _, _, _, _, _, rfl, ⟨hR.below.setCell HN.out.2.2 _, hR.h0, hR.h1, hR.h2, hR.h3, hR.h4, hR.h6, hR.x5.other _ HN.out.1, hR.x6.other _ HN.out.2.1, hR.v8.set 10 (.int .u32 u)⟩⟩
        refine RegInv.Steps.cons (fun D a w hI hD hdep K hK => ?_) ?_
        · obtain ⟨u18, u19, u20, u21, u22, u23, rfl, hR⟩ := hI
          rw [if_pos (by rfl)]
          go_simp
          exact hK.out _ _ ⟨_, _, _, _, _, _, rfl, ⟨hR.below, hR.h0, hR.h1, hR.h2, hR.h3, hR.h4, fun _ => rfl, hR.x5, hR.x6, hR.v8⟩⟩
        refine RegInv.Steps.cons (fun D a w hI hD hdep K hK => ?_) ?_
        · obtain ⟨u18, u19, u20, u21, u22, u23, rfl, hR⟩ := hI
          have d6 : D 6 = true := hdep ⟨6, .data⟩ (by simp) rfl
          obtain rfl := hR.h6 d6
          have d3 : D 3 = true := hdep ⟨3, .data⟩ (by simp) rfl
          obtain rfl := hR.h3 d3
          have cc := hR.v8.cell 9
          simp only [List.getElem?_cons_zero, List.getElem?_cons_succ] at cc
          have fc := hR.v8.free 9
          rw [if_pos (by rfl)]
          go_simp
          exact hK.out _ _ ⟨_, _, _, _, _, _, rfl, ⟨hR.below.setCell HN.out.2.2 _, hR.h0, hR.h1, hR.h2, hR.h3, hR.h4, hR.h6, hR.x5.other _ HN.out.1, hR.x6.other _ HN.out.2.1, hR.v8.set 9 (.int .i64 xq)⟩⟩
        exact RegInv.Steps.nil

    case rest =>
      clear h5 h6 h8 hbw
      obtain ⟨h5, h6, h8, hbw⟩ := hcut
      have GG := Aside0.mk (GLW.out.below hbw GLW.out.size)
      have H5 := Aside0.mk h5
      have H6 := Aside0.mk h6
      have H8 := Aside0.mk h8
      have BB := Aside0.mk hbw
      clear h5 h6 h8 hbw
      go_wp2_with fail
      refine (FrameA.awake_calls _ GG.out).mono ?_
      rintro e w7 ⟨rfl, hb7⟩
      have h5 := H5.out.below' hb7
      have h6 := H6.out.below' hb7
      have h8 := H8.out.below' hb7
      have BC := BB.out.trans (hb7.mono BB.out.size)
      clear hb7
      have ce0 := h5.cell 0; have ce1 := h5.cell 1; have ce2 := h5.cell 2; have ce3 := h5.cell 3; have ce4 := h5.cell 4; have ce5 := h5.cell 5; have ce6 := h5.cell 6; have ce7 := h5.cell 7; have ce8 := h5.cell 8; have ce9 := h5.cell 9; have ce10 := h5.cell 10; simp only [List.getElem?_cons_zero, List.getElem?_cons_succ] at ce0 ce1 ce2 ce3 ce4 ce5 ce6 ce7 ce8 ce9 ce10
      have cf0 := h6.cell 0; have cf1 := h6.cell 1; have cf2 := h6.cell 2; have cf3 := h6.cell 3; have cf4 := h6.cell 4; have cf5 := h6.cell 5; have cf6 := h6.cell 6; have cf7 := h6.cell 7; have cf8 := h6.cell 8; have cf9 := h6.cell 9; have cf10 := h6.cell 10; simp only [List.getElem?_cons_zero, List.getElem?_cons_succ] at cf0 cf1 cf2 cf3 cf4 cf5 cf6 cf7 cf8 cf9 cf10
      have cg0 := h8.cell 0; have cg1 := h8.cell 1; have cg2 := h8.cell 2; have cg3 := h8.cell 3; have cg4 := h8.cell 4; have cg5 := h8.cell 5; have cg6 := h8.cell 6; have cg7 := h8.cell 7; have cg8 := h8.cell 8; have cg9 := h8.cell 9; have cg10 := h8.cell 10; simp only [List.getElem?_cons_zero, List.getElem?_cons_succ] at cg0 cg1 cg2 cg3 cg4 cg5 cg6 cg7 cg8 cg9 cg10
      have exk : (xk == xk) = true := beq_self_eq_true _; have exc : (xc == xc) = true := beq_self_eq_true _; have exv : (xv == xv) = true := beq_self_eq_true _; have exs : (xs == xs) = true := beq_self_eq_true _; have exg : (xg == xg) = true := beq_self_eq_true _; have eca : (ca == ca) = true := beq_self_eq_true _; have ext : (xt == xt) = true := beq_self_eq_true _; have eb : (b == b) = true := beq_self_eq_true _; have ed : (d == d) = true := beq_self_eq_true _; have exq : (xq == xq) = true := beq_self_eq_true _; have eu : (u == u) = true := beq_self_eq_true _; have ewt : (wt == wt) = true := beq_self_eq_true _
      have dg : decide (0 ≤ wx) = true := decide_eq_true HWX.out.1
      have dl : decide (wx ≤ 1099511627776) = true := decide_eq_true HWX.out.2
      go_wp2_with (first
        | (go_at_call 22; first | (with_reducible refine (KWy.out _).mono ?_; rintro e w8 ⟨rfl, hb8⟩; replace h5 := h5.below' hb8; replace h6 := h6.below' hb8; replace h8 := h8.below' hb8; replace BC := BC.trans (hb8.mono BC.size); clear hb8; have ce0 := h5.cell 0; have ce1 := h5.cell 1; have ce2 := h5.cell 2; have ce3 := h5.cell 3; have ce4 := h5.cell 4; have ce5 := h5.cell 5; have ce6 := h5.cell 6; have ce7 := h5.cell 7; have ce8 := h5.cell 8; have ce9 := h5.cell 9; have ce10 := h5.cell 10; simp only [List.getElem?_cons_zero, List.getElem?_cons_succ] at ce0 ce1 ce2 ce3 ce4 ce5 ce6 ce7 ce8 ce9 ce10; have cf0 := h6.cell 0; have cf1 := h6.cell 1; have cf2 := h6.cell 2; have cf3 := h6.cell 3; have cf4 := h6.cell 4; have cf5 := h6.cell 5; have cf6 := h6.cell 6; have cf7 := h6.cell 7; have cf8 := h6.cell 8; have cf9 := h6.cell 9; have cf10 := h6.cell 10; simp only [List.getElem?_cons_zero, List.getElem?_cons_succ] at cf0 cf1 cf2 cf3 cf4 cf5 cf6 cf7 cf8 cf9 cf10; have cg0 := h8.cell 0; have cg1 := h8.cell 1; have cg2 := h8.cell 2; have cg3 := h8.cell 3; have cg4 := h8.cell 4; have cg5 := h8.cell 5; have cg6 := h8.cell 6; have cg7 := h8.cell 7; have cg8 := h8.cell 8; have cg9 := h8.cell 9; have cg10 := h8.cell 10; simp only [List.getElem?_cons_zero, List.getElem?_cons_succ] at cg0 cg1 cg2 cg3 cg4 cg5 cg6 cg7 cg8 cg9 cg10) | (with_reducible refine (KWx.out _).mono ?_; rintro e w8 ⟨rfl, hb8⟩; replace h5 := h5.below' hb8; replace h6 := h6.below' hb8; replace h8 := h8.below' hb8; replace BC := BC.trans (hb8.mono BC.size); clear hb8; have ce0 := h5.cell 0; have ce1 := h5.cell 1; have ce2 := h5.cell 2; have ce3 := h5.cell 3; have ce4 := h5.cell 4; have ce5 := h5.cell 5; have ce6 := h5.cell 6; have ce7 := h5.cell 7; have ce8 := h5.cell 8; have ce9 := h5.cell 9; have ce10 := h5.cell 10; simp only [List.getElem?_cons_zero, List.getElem?_cons_succ] at ce0 ce1 ce2 ce3 ce4 ce5 ce6 ce7 ce8 ce9 ce10; have cf0 := h6.cell 0; have cf1 := h6.cell 1; have cf2 := h6.cell 2; have cf3 := h6.cell 3; have cf4 := h6.cell 4; have cf5 := h6.cell 5; have cf6 := h6.cell 6; have cf7 := h6.cell 7; have cf8 := h6.cell 8; have cf9 := h6.cell 9; have cf10 := h6.cell 10; simp only [List.getElem?_cons_zero, List.getElem?_cons_succ] at cf0 cf1 cf2 cf3 cf4 cf5 cf6 cf7 cf8 cf9 cf10; have cg0 := h8.cell 0; have cg1 := h8.cell 1; have cg2 := h8.cell 2; have cg3 := h8.cell 3; have cg4 := h8.cell 4; have cg5 := h8.cell 5; have cg6 := h8.cell 6; have cg7 := h8.cell 7; have cg8 := h8.cell 8; have cg9 := h8.cell 9; have cg10 := h8.cell 10; simp only [List.getElem?_cons_zero, List.getElem?_cons_succ] at cg0 cg1 cg2 cg3 cg4 cg5 cg6 cg7 cg8 cg9 cg10))
        | (go_at_call 18; with_reducible refine (KM.out _).mono ?_; rintro e w8 ⟨rfl, hb8⟩; replace h5 := h5.below' hb8; replace h6 := h6.below' hb8; replace h8 := h8.below' hb8; replace BC := BC.trans (hb8.mono BC.size); clear hb8; have ce0 := h5.cell 0; have ce1 := h5.cell 1; have ce2 := h5.cell 2; have ce3 := h5.cell 3; have ce4 := h5.cell 4; have ce5 := h5.cell 5; have ce6 := h5.cell 6; have ce7 := h5.cell 7; have ce8 := h5.cell 8; have ce9 := h5.cell 9; have ce10 := h5.cell 10; simp only [List.getElem?_cons_zero, List.getElem?_cons_succ] at ce0 ce1 ce2 ce3 ce4 ce5 ce6 ce7 ce8 ce9 ce10; have cf0 := h6.cell 0; have cf1 := h6.cell 1; have cf2 := h6.cell 2; have cf3 := h6.cell 3; have cf4 := h6.cell 4; have cf5 := h6.cell 5; have cf6 := h6.cell 6; have cf7 := h6.cell 7; have cf8 := h6.cell 8; have cf9 := h6.cell 9; have cf10 := h6.cell 10; simp only [List.getElem?_cons_zero, List.getElem?_cons_succ] at cf0 cf1 cf2 cf3 cf4 cf5 cf6 cf7 cf8 cf9 cf10; have cg0 := h8.cell 0; have cg1 := h8.cell 1; have cg2 := h8.cell 2; have cg3 := h8.cell 3; have cg4 := h8.cell 4; have cg5 := h8.cell 5; have cg6 := h8.cell 6; have cg7 := h8.cell 7; have cg8 := h8.cell 8; have cg9 := h8.cell 9; have cg10 := h8.cell 10; simp only [List.getElem?_cons_zero, List.getElem?_cons_succ] at cg0 cg1 cg2 cg3 cg4 cg5 cg6 cg7 cg8 cg9 cg10))
      go_ret
      exact ⟨rfl, BC⟩
theorem frame_may_eq (k c v s g ca t : Int) (b d : Bool) (q u : Int) : frame_May.f k c v s g ca t b d q u = some (decide (1 ≤ k ∧ k ≤ 10 ∧ 0 ≤ c ∧ c ≤ 3 ∧ 0 ≤ v ∧ v ≤ 3 ∧ 0 ≤ s ∧ s ≤ 15 ∧ 0 ≤ g ∧ g ≤ 16777215 ∧ 0 ≤ t ∧ t ≤ 15 ∧ 0 ≤ q ∧ q ≤ 65535)) := by
  have hw : ∀ a m, frame_within.f a m = some (decide (0 ≤ a ∧ a ≤ m)) := by
    intro a m
    unfold frame_within.f
    split <;> (congr 1; rw [Bool.eq_iff_iff]; simp; omega)
  unfold frame_May.f
  simp only [hw, Option.bind_some, decide_eq_true_eq]
  repeat' split
  all_goals (congr 1; first | (simp; omega) | (rw [Bool.eq_iff_iff]; simp; omega))
theorem or_i64 (a b : Nat) (ha : a < 2 ^ 62) (hb : b < 2 ^ 62) : Go.bits .or .i64 (a : Int) (b : Int) = ((a ||| b : Nat) : Int) :=
  (bits_nat .i64 62 (by decide) (fun m h h' => by rw [IntKind.wrap_i64]; omega) _ _ ha hb).2
theorem when_f (k c v s g ca h : Int) (b d : Bool) (t : Int) (h0 : 0 ≤ t) (h1 : t < 1099511627776) : frame_When.f k c v s g ca h b d (t / 4294967296) (t % 4294967296) = some t := by
  obtain ⟨n, rfl⟩ := Int.eq_ofNat_of_zero_le h0
  have e1 : (n : Int) / 4294967296 = ((n / 4294967296 : Nat) : Int) := by omega
  have e2 : (n : Int) % 4294967296 = ((n % 4294967296 : Nat) : Int) := by omega
  have e3 : Go.bits .and .i64 ((n / 4294967296 : Nat) : Int) 255 = ((n / 4294967296 : Nat) : Int) := by rw [i64_and255]; omega
  unfold frame_When.f
  rw [e1, e2, e3, w64 _ (by omega) (by omega), w64 _ (by omega) (by omega)]
  rw [show ((n / 4294967296 : Nat) : Int) * 4294967296 = ((2 ^ 32 * (n / 4294967296) : Nat) : Int) by omega]
  rw [or_i64 _ _ (by omega) (by omega)]
  rw [Nat.or_comm, ← Nat.two_pow_add_eq_or_of_lt (by omega)]
  congr 1
  unfold mn
  split <;> omega
theorem when_any (k c v s g ca h : Int) (b d : Bool) (q u : Nat) (hu : u < 4294967296) : ∃ wx, frame_When.f k c v s g ca h b d q u = some wx ∧ (0 ≤ wx ∧ wx ≤ 1099511627776) := by
  refine ⟨_, rfl, ?_⟩
  have e3 : Go.bits .and .i64 (q : Int) 255 = ((q % 256 : Nat) : Int) := by rw [i64_and255]; omega
  rw [e3, w64 _ (by omega) (by omega), w64 _ (by omega) (by omega)]
  rw [show ((q % 256 : Nat) : Int) * 4294967296 = ((2 ^ 32 * (q % 256) : Nat) : Int) by omega]
  rw [or_i64 _ _ (by omega) (by omega)]
  unfold mn
  split <;> omega
theorem walk (a0_0 : Int) (a0_1 : Int) (a0_2 : Int) (a0_3 : Int) (a0_4 : Int) (a0_5 : Int) (a0_6 : Int) (a0_7 : Bool) (a0_8 : Bool) (a0_9 : Int) (a0_10 : Int) (a1 : Int) (W : World) (w0_0 : (Lit.int .i64 a0_0).wf = true) (w0_1 : (Lit.int .i64 a0_1).wf = true) (w0_2 : (Lit.int .i64 a0_2).wf = true) (w0_3 : (Lit.int .i64 a0_3).wf = true) (w0_4 : (Lit.int .i64 a0_4).wf = true) (w0_5 : (Lit.int .u32 a0_5).wf = true) (w0_6 : (Lit.int .i64 a0_6).wf = true) (w0_9 : (Lit.int .i64 a0_9).wf = true) (w0_10 : (Lit.int .u32 a0_10).wf = true) (w1 : (Lit.int .i64 a1).wf = true) (gl : LaidFrame.Cells W) :
    Calls Tryd.prog 5 #[.agg #[.int .i64 a0_0, .int .i64 a0_1, .int .i64 a0_2, .int .i64 a0_3, .int .i64 a0_4, .int .u32 a0_5, .int .i64 a0_6, .bool a0_7, .bool a0_8, .int .i64 a0_9, .int .u32 a0_10], .int .i64 a1] W fun e W' => e = .returned (.bool true) ∧ Below W.heap.size W W' := by
  obtain ⟨kn, hkn⟩ : ∃ n : Nat, a0_0 % 256 = (n : Int) := ⟨(a0_0 % 256).toNat, by omega⟩
  obtain ⟨c1, hc1⟩ : ∃ n : Nat, a0_1 % 4 = (n : Int) := ⟨(a0_1 % 4).toNat, by omega⟩
  obtain ⟨v1, hv1⟩ : ∃ n : Nat, a0_2 % 4 = (n : Int) := ⟨(a0_2 % 4).toNat, by omega⟩
  obtain ⟨s1, hs1⟩ : ∃ n : Nat, a0_3 % 16 = (n : Int) := ⟨(a0_3 % 16).toNat, by omega⟩
  obtain ⟨g1, hg1⟩ : ∃ n : Nat, a0_4 % 16777216 = (n : Int) := ⟨(a0_4 % 16777216).toNat, by omega⟩
  obtain ⟨t1, ht1⟩ : ∃ n : Nat, a0_6 % 16 = (n : Int) := ⟨(a0_6 % 16).toNat, by omega⟩
  obtain ⟨q1, hq1⟩ : ∃ n : Nat, a0_9 % 65536 = (n : Int) := ⟨(a0_9 % 65536).toNat, by omega⟩
  have hu : 0 ≤ a0_10 ∧ a0_10 < 4294967296 := by simp [Lit.wf, IntKind.min, IntKind.max, IntKind.signed, IntKind.bits] at w0_10; omega
  obtain ⟨un, rfl⟩ := Int.eq_ofNat_of_zero_le hu.1
  obtain ⟨tn, htn⟩ : ∃ x, mn (mx a1 0) 1099511627775 = x := ⟨_, rfl⟩
  have htb : 0 ≤ tn ∧ tn ≤ 1099511627775 := by rw [← htn]; unfold mn mx; split <;> split <;> omega
  obtain ⟨wx, hwx, hwb⟩ := when_any ((kn % 10 : Nat) + 1) c1 v1 s1 g1 a0_5 t1 a0_7 a0_8 q1 un (by omega)
  refine core a0_0 a0_1 a0_2 a0_3 a0_4 a0_5 a0_6 a0_7 a0_8 a0_9 un a1 ((kn % 10 : Nat) + 1) c1 v1 s1 g1 t1 q1 (tn / 4294967296) (tn % 4294967296) (if a1 < 0 then 0 else if a1 > 1099511627776 then 1099511627776 else a1) tn wx (fun w => ?_) (by rw [← htn]; rfl) ?_ ?_ (when_f _ _ _ _ _ _ _ _ _ tn htb.1 (by omega)) hwx hwb ?_ W gl
  · refine near_core a0_0 a0_1 a0_2 a0_3 a0_4 a0_5 a0_6 a0_7 a0_8 a0_9 un 0 w 0 kn (kn % 10) c1 v1 s1 g1 t1 q1 _ _ _ _ _ _ _ (by decide) (by rw [i64_and255]; exact hkn) ?_ (by omega)
      (by rw [i64_and3]; exact hc1) (by rw [i64_and3]; exact hv1) (by rw [i64_and15]; exact hs1) (by rw [i64_and24]; exact hg1) (by rw [i64_and15]; exact ht1) (by rw [i64_and65535]; exact hq1) ⟨?_, ?_, ?_, ?_, ?_, ?_, ?_⟩
    · rw [Int.tmod_eq_emod_of_nonneg (by omega)]; omega
    all_goals rfl
  · unfold cablewayref03_Clamp.f
    split
    · rfl
    · split <;> rfl
  · rw [← htn]
    unfold mn mx
    repeat' split
    all_goals omega
  · rw [frame_may_eq]
    congr 1
    exact decide_eq_true (by omega)
end Go.Proofs.YthonkcldddfpnaaDoor.walkFrameTimes
