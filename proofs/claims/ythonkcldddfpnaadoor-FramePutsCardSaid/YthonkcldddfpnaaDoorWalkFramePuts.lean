/- A frame has the document's words, and is read again: the walk of FramePuts. -/
import Derived.Test.YthonkcldddfpnaaDoorFrameA
import Derived.Test.YthonkcldddfpnaaDoorFrameR
import Derived.Test.YthonkcldddfpnaaDoorNear
import Derived.Deep.WholeRow
import Derived.ChangeKeysEq
namespace Go.Proofs.YthonkcldddfpnaaDoor.walkFramePuts
open Go.RowKit Go.Proofs.YthonkcldddfpnaaDoor.PFrameGets Go.Proofs.YthonkcldddfpnaaDoorW.PrintWords Go.Proofs.YthonkcldddfpnaaDoorW.PrintLast Go.Proofs.YthonkcldddfpnaaDoorW.PrintMore Go.Proofs.YthonkcldddfpnaaDoor.Aid Go.Proofs.YthonkcldddfpnaaDoor.Quiet Go.Proofs.YthonkcldddfpnaaDoor.Blk Go.Proofs.YthonkcldddfpnaaDoor.State Go.Proofs.YthonkcldddfpnaaDoor.Vals Go.Proofs.YthonkcldddfpnaaDoor.LaidFrame Go.Proofs.YthonkcldddfpnaaDoor.Near Go.Proofs.YthonkcldddfpnaaDoor.FieldMath Go.Proofs.YthonkcldddfpnaaDoor.FrameF Go.Proofs.YthonkcldddfpnaaDoor.FrameQ
set_option linter.unusedVariables false
set_option linter.unusedSimpArgs false
attribute [local go_sem] max2_int min2_int max_two min_two
theorem eqA24 (d : Nat) (w : World) (x0 y0 : Int) (x1 y1 : Int) (x2 y2 : Int) (x3 y3 : Int) (x4 y4 : Int) (x5 y5 : Int) (x6 y6 : Int) (x7 y7 : Bool) (x8 y8 : Bool) (x9 y9 : Int) (x10 y10 : Int) :
    (Op.equalIn (d + 2) 24 (.agg #[.int .i64 x0, .int .i64 x1, .int .i64 x2, .int .i64 x3, .int .i64 x4, .int .u32 x5, .int .i64 x6, .bool x7, .bool x8, .int .i64 x9, .int .u32 x10]) (.agg #[.int .i64 y0, .int .i64 y1, .int .i64 y2, .int .i64 y3, .int .i64 y4, .int .u32 y5, .int .i64 y6, .bool y7, .bool y8, .int .i64 y9, .int .u32 y10])).run Tryd.prog w = .ok (x0 == y0 && (x1 == y1 && (x2 == y2 && (x3 == y3 && (x4 == y4 && (x5 == y5 && (x6 == y6 && (x7 == y7 && (x8 == y8 && (x9 == y9 && (x10 == y10))))))))))) w := by
  refine eqA_of Tryd.underlying24 (by kernel_rfl) ?_
  refine eqf_cons (by rfl) (by go_simp; rfl) (by go_simp; rfl) (by go_simp) ?_
  refine eqf_cons (by rfl) (by go_simp; rfl) (by go_simp; rfl) (by go_simp) ?_
  refine eqf_cons (by rfl) (by go_simp; rfl) (by go_simp; rfl) (by go_simp) ?_
  refine eqf_cons (by rfl) (by go_simp; rfl) (by go_simp; rfl) (by go_simp) ?_
  refine eqf_cons (by rfl) (by go_simp; rfl) (by go_simp; rfl) (by go_simp) ?_
  refine eqf_cons (by rfl) (by go_simp; rfl) (by go_simp; rfl) (by go_simp) ?_
  refine eqf_cons (by rfl) (by go_simp; rfl) (by go_simp; rfl) (by go_simp) ?_
  refine eqf_cons (by rfl) (by go_simp; rfl) (by go_simp; rfl) (by go_simp) ?_
  refine eqf_cons (by rfl) (by go_simp; rfl) (by go_simp; rfl) (by go_simp) ?_
  refine eqf_cons (by rfl) (by go_simp; rfl) (by go_simp; rfl) (by go_simp) ?_
  exact eqf_last (by rfl) (by go_simp; rfl) (by go_simp; rfl) (by go_simp)
attribute [local go_sem high] eqA24
theorem eqA28 (d : Nat) (w : World) (x0 x1 x2 y0 y1 y2 : Int) : (Op.equalIn (d + 2) 28 (.agg #[.int .u64 x0, .int .u64 x1, .int .u64 x2]) (.agg #[.int .u64 y0, .int .u64 y1, .int .u64 y2])).run Tryd.prog w = .ok (x0 == y0 && (x1 == y1 && (x2 == y2))) w := by
  obtain ⟨i, hi⟩ : ∃ i, Tryd.prog.info? 26 = some i := Option.isSome_iff_exists.1 (by kernel_rfl)
  have hc : Tryd.prog.cellsOf 26 = 1 := by kernel_rfl
  have hr : List.range 3 = [0, 1, 2] := by decide
  rw [run_equalIn_array w (d + 1) _ _ Tryd.underlying28 hi, hc, hr]
  simp only [Op.eqItems]
  go_simp
  by_cases h0 : x0 = y0 <;> by_cases h1 : x1 = y1 <;> by_cases h2 : x2 = y2 <;> simp [h0, h1, h2]
attribute [local go_sem high] eqA28
theorem wpList_store_new {P : Program} {ops : Array Oper} {rest : List Oper} {o : Oper} {a : Act} {Q : Exit → Act → World → Prop} {w : World} (hgd : o.guard = none) (ty : TypeId) (x y : Operand) (ho : o.op = .store ty x y)
    (g : Nat) (hgs : w.heap.size = g) (c cells : Array Value) (hx : a.eval x = .pointer (some ⟨g, 0, none⟩)) (hy : a.eval y = .agg cells) (hi : (P.info? ty).map (·.size) = some cells.size) (hold : c.size = cells.size) (h1 : cells.all (·.oneCell') = true)
    (h : wpList P ops Q rest (a.put o.dst undef) (w.alloc (.cells cells ty))) : wpList P ops Q (o :: rest) a (w.alloc (.cells c ty)) := by
  subst hgs
  refine wpList_store_row hgd ty x y ho _ cells hx hy ty c (heap_alloc_last w _) hi hold h1 ?_
  rw [World.setRow_alloc_new]
  exact h

set_option maxHeartbeats 8000000 in
set_option maxRecDepth 100000 in
theorem core_ok (K C V S G ca Tr : Int) (b d : Bool) (Q u odd : Int) (xk xc xv xs xg xt xq v0 v1 v2 : Int)
    (NEAR : ∀ w, Calls Tryd.prog 13 #[.agg #[.int .i64 K, .int .i64 C, .int .i64 V, .int .i64 S, .int .i64 G, .int .u32 ca, .int .i64 Tr, .bool b, .bool d, .int .i64 Q, .int .u32 u], .int .i64 odd] w fun e w' => e = .returned (.agg #[.int .i64 xk, .int .i64 xc, .int .i64 xv, .int .i64 xs, .int .i64 xg, .int .u32 ca, .int .i64 xt, .bool b, .bool d, .int .i64 xq, .int .u32 u]) ∧ Below w.heap.size w w')
    (PUT : ∀ w, Cells w → Calls Tryd.prog 14 #[.agg #[.int .i64 xk, .int .i64 xc, .int .i64 xv, .int .i64 xs, .int .i64 xg, .int .u32 ca, .int .i64 xt, .bool b, .bool d, .int .i64 xq, .int .u32 u]] w fun e w' => e = .returned (.tuple #[.agg #[.int .u64 v0, .int .u64 v1, .int .u64 v2], .bool true]) ∧ Below w.heap.size w w')
    (REF : ∀ w, Calls Tryd.prog 15 #[.agg #[.int .i64 xk, .int .i64 xc, .int .i64 xv, .int .i64 xs, .int .i64 xg, .int .u32 ca, .int .i64 xt, .bool b, .bool d, .int .i64 xq, .int .u32 u]] w fun e w' => e = .returned (.tuple #[.agg #[.int .u64 v0, .int .u64 v1, .int .u64 v2], .bool true]) ∧ Below w.heap.size w w')
    (GET : ∀ w, Cells w → Calls Tryd.prog 16 #[.agg #[.int .u64 v0, .int .u64 v1, .int .u64 v2]] w fun e w' => e = .returned (.tuple #[.agg #[.int .i64 xk, .int .i64 xc, .int .i64 xv, .int .i64 xs, .int .i64 xg, .int .u32 ca, .int .i64 xt, .bool b, .bool d, .int .i64 xq, .int .u32 u], .int .i64 0]) ∧ Below w.heap.size w w')
    (MAY : ∀ w, Calls Tryd.prog 18 #[.agg #[.int .i64 xk, .int .i64 xc, .int .i64 xv, .int .i64 xs, .int .i64 xg, .int .u32 ca, .int .i64 xt, .bool b, .bool d, .int .i64 xq, .int .u32 u]] w fun e w' => e = .returned (.bool true) ∧ Below w.heap.size w w') (W : World) (gl : Cells W) :
    Calls Tryd.prog 3 #[.agg #[.int .i64 K, .int .i64 C, .int .i64 V, .int .i64 S, .int .i64 G, .int .u32 ca, .int .i64 Tr, .bool b, .bool d, .int .i64 Q, .int .u32 u], .int .i64 odd] W fun e W' => e = .returned (.bool true) ∧ Below W.heap.size W W' := by
  have KN := Aside0.mk NEAR
  have KP := Aside0.mk PUT
  have KR := Aside0.mk REF
  have KG := Aside0.mk GET
  have KM := Aside0.mk MAY
  have GLW := Aside0.mk gl
  clear NEAR PUT REF GET MAY gl
  have hu24 := Tryd.underlying24
  have hu28 := Tryd.underlying28
  go_enter Tryd.func3, Tryd.ntmps3
  go_upto_region 1 with fail
  go_upto_region 2 with (first | (go_at_call 13; with_reducible refine (KN.out _).mono ?_; rintro e w1 ⟨rfl, hb1⟩; have B1 := Aside0.mk (((Below.refl W.heap.size W).alloc (Nat.le_refl _) _).trans (hb1.mono (by simp only [World.alloc, Array.size_push]; omega))); clear hb1) | ((with_reducible refine gate_store (t := 24) (p := 5) (v := .tmp 14) rfl ?_); refine wpList_store_new rfl 24 (.tmp 5) (.tmp 14) rfl _ rfl _ ([.int .i64 xk, .int .i64 xc, .int .i64 xv, .int .i64 xs, .int .i64 xg, .int .u32 ca, .int .i64 xt, .bool b, .bool d, .int .i64 xq, .int .u32 u] : List Value).toArray rfl rfl (by kernel_rfl) rfl (by kernel_rfl) ?_))
  obtain ⟨b5, hb0⟩ : ∃ x, w1.heap.size = x := ⟨_, rfl⟩
  have H5 := Aside0.mk (show HoldsV 24 (w1.alloc (.cells ([.int .i64 xk, .int .i64 xc, .int .i64 xv, .int .i64 xs, .int .i64 xg, .int .u32 ca, .int .i64 xt, .bool b, .bool d, .int .i64 xq, .int .u32 u] : List Value).toArray 24)) b5 [.int .i64 xk, .int .i64 xc, .int .i64 xv, .int .i64 xs, .int .i64 xg, .int .u32 ca, .int .i64 xt, .bool b, .bool d, .int .i64 xq, .int .u32 u] by rw [← hb0]; exact heap_new _ _)
  have B2 := Aside0.mk (B1.out.alloc B1.out.size (.cells ([.int .i64 xk, .int .i64 xc, .int .i64 xv, .int .i64 xs, .int .i64 xg, .int .u32 ca, .int .i64 xt, .bool b, .bool d, .int .i64 xq, .int .u32 u] : List Value).toArray 24))
  obtain ⟨w2, hw⟩ : ∃ x, w1.alloc (.cells ([.int .i64 xk, .int .i64 xc, .int .i64 xv, .int .i64 xs, .int .i64 xg, .int .u32 ca, .int .i64 xt, .bool b, .bool d, .int .i64 xq, .int .u32 u] : List Value).toArray 24) = x := ⟨_, rfl⟩
  rw [hw] at H5 B2 ⊢
  rw [hb0]
  clear hb0
  clear B1
  have cx0 := H5.out.cell 0; have cx1 := H5.out.cell 1; have cx2 := H5.out.cell 2; have cx3 := H5.out.cell 3; have cx4 := H5.out.cell 4; have cx5 := H5.out.cell 5; have cx6 := H5.out.cell 6; have cx7 := H5.out.cell 7; have cx8 := H5.out.cell 8; have cx9 := H5.out.cell 9; have cx10 := H5.out.cell 10; simp only [List.getElem?_cons_zero, List.getElem?_cons_succ] at cx0 cx1 cx2 cx3 cx4 cx5 cx6 cx7 cx8 cx9 cx10
  go_upto_if 15 with fail
  refine (KP.out w2 (GLW.out.below B2.out GLW.out.size)).mono ?_
  rintro e w3 ⟨rfl, hb⟩
  have B3 := Aside0.mk (B2.out.trans (hb.mono B2.out.size))
  have H5a := Aside0.mk (H5.out.below' hb)
  clear hb B2 H5 cx0 cx1 cx2 cx3 cx4 cx5 cx6 cx7 cx8 cx9 cx10
  go_upto_region 3 with (first | ((with_reducible refine gate_store (t := 28) (p := 6) (v := .tmp 18) rfl ?_); refine wpList_store_new rfl 28 (.tmp 6) (.tmp 18) rfl _ rfl _ ([.int .u64 v0, .int .u64 v1, .int .u64 v2] : List Value).toArray rfl rfl (by kernel_rfl) rfl (by kernel_rfl) ?_))
  obtain ⟨b6, hb0⟩ : ∃ x, w3.heap.size = x := ⟨_, rfl⟩
  have H6 := Aside0.mk (show HoldsV 28 (w3.alloc (.cells ([.int .u64 v0, .int .u64 v1, .int .u64 v2] : List Value).toArray 28)) b6 [.int .u64 v0, .int .u64 v1, .int .u64 v2] by rw [← hb0]; exact heap_new _ _)
  have B4 := Aside0.mk (B3.out.alloc B3.out.size (.cells ([.int .u64 v0, .int .u64 v1, .int .u64 v2] : List Value).toArray 28))
  obtain ⟨w4, hw⟩ : ∃ x, w3.alloc (.cells ([.int .u64 v0, .int .u64 v1, .int .u64 v2] : List Value).toArray 28) = x := ⟨_, rfl⟩
  rw [hw] at H6 B4 ⊢
  rw [hb0]
  clear hb0
  have H5b := Aside0.mk (show HoldsV 24 w4 b5 [.int .i64 xk, .int .i64 xc, .int .i64 xv, .int .i64 xs, .int .i64 xg, .int .u32 ca, .int .i64 xt, .bool b, .bool d, .int .i64 xq, .int .u32 u] by rw [← hw]; exact heap_old H5a.out)
  clear hw B3 H5a
  have cx0 := H5b.out.cell 0; have cx1 := H5b.out.cell 1; have cx2 := H5b.out.cell 2; have cx3 := H5b.out.cell 3; have cx4 := H5b.out.cell 4; have cx5 := H5b.out.cell 5; have cx6 := H5b.out.cell 6; have cx7 := H5b.out.cell 7; have cx8 := H5b.out.cell 8; have cx9 := H5b.out.cell 9; have cx10 := H5b.out.cell 10; simp only [List.getElem?_cons_zero, List.getElem?_cons_succ] at cx0 cx1 cx2 cx3 cx4 cx5 cx6 cx7 cx8 cx9 cx10
  go_upto_if 20 with fail
  refine (KR.out w4).mono ?_
  rintro e w5 ⟨rfl, hb⟩
  have B5 := Aside0.mk (B4.out.trans (hb.mono B4.out.size))
  have H5c := Aside0.mk (H5b.out.below' hb)
  have H6c := Aside0.mk (H6.out.below' hb)
  clear hb B4 H5b H6 cx0 cx1 cx2 cx3 cx4 cx5 cx6 cx7 cx8 cx9 cx10
  go_upto_region 4 with (first | ((with_reducible refine gate_store (t := 28) (p := 8) (v := .tmp 23) rfl ?_); refine wpList_store_new rfl 28 (.tmp 8) (.tmp 23) rfl _ rfl _ ([.int .u64 v0, .int .u64 v1, .int .u64 v2] : List Value).toArray rfl rfl (by kernel_rfl) rfl (by kernel_rfl) ?_))
  obtain ⟨b8, hb0⟩ : ∃ x, w5.heap.size = x := ⟨_, rfl⟩
  have H8 := Aside0.mk (show HoldsV 28 (w5.alloc (.cells ([.int .u64 v0, .int .u64 v1, .int .u64 v2] : List Value).toArray 28)) b8 [.int .u64 v0, .int .u64 v1, .int .u64 v2] by rw [← hb0]; exact heap_new _ _)
  have B6 := Aside0.mk (B5.out.alloc B5.out.size (.cells ([.int .u64 v0, .int .u64 v1, .int .u64 v2] : List Value).toArray 28))
  obtain ⟨w6, hw⟩ : ∃ x, w5.alloc (.cells ([.int .u64 v0, .int .u64 v1, .int .u64 v2] : List Value).toArray 28) = x := ⟨_, rfl⟩
  rw [hw] at H8 B6 ⊢
  rw [hb0]
  clear hb0
  have H5d := Aside0.mk (show HoldsV 24 w6 b5 [.int .i64 xk, .int .i64 xc, .int .i64 xv, .int .i64 xs, .int .i64 xg, .int .u32 ca, .int .i64 xt, .bool b, .bool d, .int .i64 xq, .int .u32 u] by rw [← hw]; exact heap_old H5c.out)
  have H6d := Aside0.mk (show HoldsV 28 w6 b6 [.int .u64 v0, .int .u64 v1, .int .u64 v2] by rw [← hw]; exact heap_old H6c.out)
  clear hw B5 H5c H6c
  have cx0 := H6d.out.cell 0; have cx1 := H6d.out.cell 1; have cx2 := H6d.out.cell 2; simp only [List.getElem?_cons_zero, List.getElem?_cons_succ] at cx0 cx1 cx2
  go_upto_if 25 with fail
  refine (KG.out w6 (GLW.out.below B6.out GLW.out.size)).mono ?_
  rintro e w7 ⟨rfl, hb⟩
  have B7 := Aside0.mk (B6.out.trans (hb.mono B6.out.size))
  have H5e := Aside0.mk (H5d.out.below' hb)
  have H6e := Aside0.mk (H6d.out.below' hb)
  have H8e := Aside0.mk (H8.out.below' hb)
  clear hb B6 H5d H6d H8 cx0 cx1 cx2
  go_upto_region 5 with (first | ((with_reducible refine gate_store (t := 24) (p := 10) (v := .tmp 28) rfl ?_); refine wpList_store_new rfl 24 (.tmp 10) (.tmp 28) rfl _ rfl _ ([.int .i64 xk, .int .i64 xc, .int .i64 xv, .int .i64 xs, .int .i64 xg, .int .u32 ca, .int .i64 xt, .bool b, .bool d, .int .i64 xq, .int .u32 u] : List Value).toArray rfl rfl (by kernel_rfl) rfl (by kernel_rfl) ?_))
  obtain ⟨b10, hb0⟩ : ∃ x, w7.heap.size = x := ⟨_, rfl⟩
  have H10 := Aside0.mk (show HoldsV 24 (w7.alloc (.cells ([.int .i64 xk, .int .i64 xc, .int .i64 xv, .int .i64 xs, .int .i64 xg, .int .u32 ca, .int .i64 xt, .bool b, .bool d, .int .i64 xq, .int .u32 u] : List Value).toArray 24)) b10 [.int .i64 xk, .int .i64 xc, .int .i64 xv, .int .i64 xs, .int .i64 xg, .int .u32 ca, .int .i64 xt, .bool b, .bool d, .int .i64 xq, .int .u32 u] by rw [← hb0]; exact heap_new _ _)
  have B8 := Aside0.mk (B7.out.alloc B7.out.size (.cells ([.int .i64 xk, .int .i64 xc, .int .i64 xv, .int .i64 xs, .int .i64 xg, .int .u32 ca, .int .i64 xt, .bool b, .bool d, .int .i64 xq, .int .u32 u] : List Value).toArray 24))
  obtain ⟨w8, hw⟩ : ∃ x, w7.alloc (.cells ([.int .i64 xk, .int .i64 xc, .int .i64 xv, .int .i64 xs, .int .i64 xg, .int .u32 ca, .int .i64 xt, .bool b, .bool d, .int .i64 xq, .int .u32 u] : List Value).toArray 24) = x := ⟨_, rfl⟩
  rw [hw] at H10 B8 ⊢
  rw [hb0]
  clear hb0
  have H5f := Aside0.mk (show HoldsV 24 w8 b5 [.int .i64 xk, .int .i64 xc, .int .i64 xv, .int .i64 xs, .int .i64 xg, .int .u32 ca, .int .i64 xt, .bool b, .bool d, .int .i64 xq, .int .u32 u] by rw [← hw]; exact heap_old H5e.out)
  have H6f := Aside0.mk (show HoldsV 28 w8 b6 [.int .u64 v0, .int .u64 v1, .int .u64 v2] by rw [← hw]; exact heap_old H6e.out)
  have H8f := Aside0.mk (show HoldsV 28 w8 b8 [.int .u64 v0, .int .u64 v1, .int .u64 v2] by rw [← hw]; exact heap_old H8e.out)
  clear hw B7 H5e H6e H8e
  go_wp2_with fail
  refine (FrameA.awake_calls _ (GLW.out.below B8.out GLW.out.size)).mono ?_
  rintro e w9 ⟨rfl, hb⟩
  have BC := B8.out.trans (hb.mono B8.out.size)
  have h5 := H5f.out.below' hb
  have h6 := H6f.out.below' hb
  have h8 := H8f.out.below' hb
  have h10 := H10.out.below' hb
  clear hb B8 H5f H6f H8f H10
  have ce0 := h5.cell 0; have ce1 := h5.cell 1; have ce2 := h5.cell 2; have ce3 := h5.cell 3; have ce4 := h5.cell 4; have ce5 := h5.cell 5; have ce6 := h5.cell 6; have ce7 := h5.cell 7; have ce8 := h5.cell 8; have ce9 := h5.cell 9; have ce10 := h5.cell 10; simp only [List.getElem?_cons_zero, List.getElem?_cons_succ] at ce0 ce1 ce2 ce3 ce4 ce5 ce6 ce7 ce8 ce9 ce10
  have cf0 := h6.cell 0; have cf1 := h6.cell 1; have cf2 := h6.cell 2; simp only [List.getElem?_cons_zero, List.getElem?_cons_succ] at cf0 cf1 cf2
  have ch0 := h8.cell 0; have ch1 := h8.cell 1; have ch2 := h8.cell 2; simp only [List.getElem?_cons_zero, List.getElem?_cons_succ] at ch0 ch1 ch2
  have cg0 := h10.cell 0; have cg1 := h10.cell 1; have cg2 := h10.cell 2; have cg3 := h10.cell 3; have cg4 := h10.cell 4; have cg5 := h10.cell 5; have cg6 := h10.cell 6; have cg7 := h10.cell 7; have cg8 := h10.cell 8; have cg9 := h10.cell 9; have cg10 := h10.cell 10; simp only [List.getElem?_cons_zero, List.getElem?_cons_succ] at cg0 cg1 cg2 cg3 cg4 cg5 cg6 cg7 cg8 cg9 cg10
  have exk : (xk == xk) = true := beq_self_eq_true _; have exc : (xc == xc) = true := beq_self_eq_true _; have exv : (xv == xv) = true := beq_self_eq_true _; have exs : (xs == xs) = true := beq_self_eq_true _; have exg : (xg == xg) = true := beq_self_eq_true _; have eca : (ca == ca) = true := beq_self_eq_true _; have ext : (xt == xt) = true := beq_self_eq_true _; have eb : (b == b) = true := beq_self_eq_true _; have ed : (d == d) = true := beq_self_eq_true _; have exq : (xq == xq) = true := beq_self_eq_true _; have eu : (u == u) = true := beq_self_eq_true _; have ev0 : (v0 == v0) = true := beq_self_eq_true _; have ev1 : (v1 == v1) = true := beq_self_eq_true _; have ev2 : (v2 == v2) = true := beq_self_eq_true _
  go_wp2_with (first | (go_at_call 18; with_reducible refine (KM.out _).mono ?_; rintro e wa ⟨rfl, hb⟩; replace BC := BC.trans (hb.mono BC.size); replace h5 := h5.below' hb; replace h10 := h10.below' hb; clear hb; have ce0 := h5.cell 0; have ce1 := h5.cell 1; have ce2 := h5.cell 2; have ce3 := h5.cell 3; have ce4 := h5.cell 4; have ce5 := h5.cell 5; have ce6 := h5.cell 6; have ce7 := h5.cell 7; have ce8 := h5.cell 8; have ce9 := h5.cell 9; have ce10 := h5.cell 10; simp only [List.getElem?_cons_zero, List.getElem?_cons_succ] at ce0 ce1 ce2 ce3 ce4 ce5 ce6 ce7 ce8 ce9 ce10; have cg0 := h10.cell 0; have cg1 := h10.cell 1; have cg2 := h10.cell 2; have cg3 := h10.cell 3; have cg4 := h10.cell 4; have cg5 := h10.cell 5; have cg6 := h10.cell 6; have cg7 := h10.cell 7; have cg8 := h10.cell 8; have cg9 := h10.cell 9; have cg10 := h10.cell 10; simp only [List.getElem?_cons_zero, List.getElem?_cons_succ] at cg0 cg1 cg2 cg3 cg4 cg5 cg6 cg7 cg8 cg9 cg10))
  go_ret
  exact ⟨rfl, BC⟩

set_option maxHeartbeats 8000000 in
set_option maxRecDepth 100000 in
theorem core_bad (K C V S G ca Tr : Int) (b d : Bool) (Q u odd : Int) (xk xc xv xs xg xt xq v0 v1 v2 : Int)
    (NEAR : ∀ w, Calls Tryd.prog 13 #[.agg #[.int .i64 K, .int .i64 C, .int .i64 V, .int .i64 S, .int .i64 G, .int .u32 ca, .int .i64 Tr, .bool b, .bool d, .int .i64 Q, .int .u32 u], .int .i64 odd] w fun e w' => e = .returned (.agg #[.int .i64 xk, .int .i64 xc, .int .i64 xv, .int .i64 xs, .int .i64 xg, .int .u32 ca, .int .i64 xt, .bool b, .bool d, .int .i64 xq, .int .u32 u]) ∧ Below w.heap.size w w')
    (PUT : ∀ w, Cells w → Calls Tryd.prog 14 #[.agg #[.int .i64 xk, .int .i64 xc, .int .i64 xv, .int .i64 xs, .int .i64 xg, .int .u32 ca, .int .i64 xt, .bool b, .bool d, .int .i64 xq, .int .u32 u]] w fun e w' => e = .returned (.tuple #[.agg #[.int .u64 v0, .int .u64 v1, .int .u64 v2], .bool false]) ∧ Below w.heap.size w w')
    (REF : ∀ w, Calls Tryd.prog 15 #[.agg #[.int .i64 xk, .int .i64 xc, .int .i64 xv, .int .i64 xs, .int .i64 xg, .int .u32 ca, .int .i64 xt, .bool b, .bool d, .int .i64 xq, .int .u32 u]] w fun e w' => e = .returned (.tuple #[.agg #[.int .u64 v0, .int .u64 v1, .int .u64 v2], .bool false]) ∧ Below w.heap.size w w')
    (GET : ∀ w, Cells w → Calls Tryd.prog 16 #[.agg #[.int .u64 v0, .int .u64 v1, .int .u64 v2]] w fun e w' => e = .returned (.tuple #[.agg #[.int .i64 0, .int .i64 0, .int .i64 0, .int .i64 0, .int .i64 0, .int .u32 0, .int .i64 0, .bool false, .bool false, .int .i64 0, .int .u32 0], .int .i64 2]) ∧ Below w.heap.size w w')
    (MAY : ∀ w, Calls Tryd.prog 18 #[.agg #[.int .i64 xk, .int .i64 xc, .int .i64 xv, .int .i64 xs, .int .i64 xg, .int .u32 ca, .int .i64 xt, .bool b, .bool d, .int .i64 xq, .int .u32 u]] w fun e w' => e = .returned (.bool false) ∧ Below w.heap.size w w') (W : World) (gl : Cells W) :
    Calls Tryd.prog 3 #[.agg #[.int .i64 K, .int .i64 C, .int .i64 V, .int .i64 S, .int .i64 G, .int .u32 ca, .int .i64 Tr, .bool b, .bool d, .int .i64 Q, .int .u32 u], .int .i64 odd] W fun e W' => e = .returned (.bool true) ∧ Below W.heap.size W W' := by
  have KN := Aside0.mk NEAR
  have KP := Aside0.mk PUT
  have KR := Aside0.mk REF
  have KG := Aside0.mk GET
  have KM := Aside0.mk MAY
  have GLW := Aside0.mk gl
  clear NEAR PUT REF GET MAY gl
  have hu24 := Tryd.underlying24
  have hu28 := Tryd.underlying28
  go_enter Tryd.func3, Tryd.ntmps3
  go_upto_region 1 with fail
  go_upto_region 2 with (first | (go_at_call 13; with_reducible refine (KN.out _).mono ?_; rintro e w1 ⟨rfl, hb1⟩; have B1 := Aside0.mk (((Below.refl W.heap.size W).alloc (Nat.le_refl _) _).trans (hb1.mono (by simp only [World.alloc, Array.size_push]; omega))); clear hb1) | ((with_reducible refine gate_store (t := 24) (p := 5) (v := .tmp 14) rfl ?_); refine wpList_store_new rfl 24 (.tmp 5) (.tmp 14) rfl _ rfl _ ([.int .i64 xk, .int .i64 xc, .int .i64 xv, .int .i64 xs, .int .i64 xg, .int .u32 ca, .int .i64 xt, .bool b, .bool d, .int .i64 xq, .int .u32 u] : List Value).toArray rfl rfl (by kernel_rfl) rfl (by kernel_rfl) ?_))
  obtain ⟨b5, hb0⟩ : ∃ x, w1.heap.size = x := ⟨_, rfl⟩
  have H5 := Aside0.mk (show HoldsV 24 (w1.alloc (.cells ([.int .i64 xk, .int .i64 xc, .int .i64 xv, .int .i64 xs, .int .i64 xg, .int .u32 ca, .int .i64 xt, .bool b, .bool d, .int .i64 xq, .int .u32 u] : List Value).toArray 24)) b5 [.int .i64 xk, .int .i64 xc, .int .i64 xv, .int .i64 xs, .int .i64 xg, .int .u32 ca, .int .i64 xt, .bool b, .bool d, .int .i64 xq, .int .u32 u] by rw [← hb0]; exact heap_new _ _)
  have B2 := Aside0.mk (B1.out.alloc B1.out.size (.cells ([.int .i64 xk, .int .i64 xc, .int .i64 xv, .int .i64 xs, .int .i64 xg, .int .u32 ca, .int .i64 xt, .bool b, .bool d, .int .i64 xq, .int .u32 u] : List Value).toArray 24))
  obtain ⟨w2, hw⟩ : ∃ x, w1.alloc (.cells ([.int .i64 xk, .int .i64 xc, .int .i64 xv, .int .i64 xs, .int .i64 xg, .int .u32 ca, .int .i64 xt, .bool b, .bool d, .int .i64 xq, .int .u32 u] : List Value).toArray 24) = x := ⟨_, rfl⟩
  rw [hw] at H5 B2 ⊢
  rw [hb0]
  clear hb0
  clear B1
  have cx0 := H5.out.cell 0; have cx1 := H5.out.cell 1; have cx2 := H5.out.cell 2; have cx3 := H5.out.cell 3; have cx4 := H5.out.cell 4; have cx5 := H5.out.cell 5; have cx6 := H5.out.cell 6; have cx7 := H5.out.cell 7; have cx8 := H5.out.cell 8; have cx9 := H5.out.cell 9; have cx10 := H5.out.cell 10; simp only [List.getElem?_cons_zero, List.getElem?_cons_succ] at cx0 cx1 cx2 cx3 cx4 cx5 cx6 cx7 cx8 cx9 cx10
  go_upto_if 15 with fail
  refine (KP.out w2 (GLW.out.below B2.out GLW.out.size)).mono ?_
  rintro e w3 ⟨rfl, hb⟩
  have B3 := Aside0.mk (B2.out.trans (hb.mono B2.out.size))
  have H5a := Aside0.mk (H5.out.below' hb)
  clear hb B2 H5 cx0 cx1 cx2 cx3 cx4 cx5 cx6 cx7 cx8 cx9 cx10
  go_upto_region 3 with (first | ((with_reducible refine gate_store (t := 28) (p := 6) (v := .tmp 18) rfl ?_); refine wpList_store_new rfl 28 (.tmp 6) (.tmp 18) rfl _ rfl _ ([.int .u64 v0, .int .u64 v1, .int .u64 v2] : List Value).toArray rfl rfl (by kernel_rfl) rfl (by kernel_rfl) ?_))
  obtain ⟨b6, hb0⟩ : ∃ x, w3.heap.size = x := ⟨_, rfl⟩
  have H6 := Aside0.mk (show HoldsV 28 (w3.alloc (.cells ([.int .u64 v0, .int .u64 v1, .int .u64 v2] : List Value).toArray 28)) b6 [.int .u64 v0, .int .u64 v1, .int .u64 v2] by rw [← hb0]; exact heap_new _ _)
  have B4 := Aside0.mk (B3.out.alloc B3.out.size (.cells ([.int .u64 v0, .int .u64 v1, .int .u64 v2] : List Value).toArray 28))
  obtain ⟨w4, hw⟩ : ∃ x, w3.alloc (.cells ([.int .u64 v0, .int .u64 v1, .int .u64 v2] : List Value).toArray 28) = x := ⟨_, rfl⟩
  rw [hw] at H6 B4 ⊢
  rw [hb0]
  clear hb0
  have H5b := Aside0.mk (show HoldsV 24 w4 b5 [.int .i64 xk, .int .i64 xc, .int .i64 xv, .int .i64 xs, .int .i64 xg, .int .u32 ca, .int .i64 xt, .bool b, .bool d, .int .i64 xq, .int .u32 u] by rw [← hw]; exact heap_old H5a.out)
  clear hw B3 H5a
  have cx0 := H5b.out.cell 0; have cx1 := H5b.out.cell 1; have cx2 := H5b.out.cell 2; have cx3 := H5b.out.cell 3; have cx4 := H5b.out.cell 4; have cx5 := H5b.out.cell 5; have cx6 := H5b.out.cell 6; have cx7 := H5b.out.cell 7; have cx8 := H5b.out.cell 8; have cx9 := H5b.out.cell 9; have cx10 := H5b.out.cell 10; simp only [List.getElem?_cons_zero, List.getElem?_cons_succ] at cx0 cx1 cx2 cx3 cx4 cx5 cx6 cx7 cx8 cx9 cx10
  go_upto_if 20 with fail
  refine (KR.out w4).mono ?_
  rintro e w5 ⟨rfl, hb⟩
  have B5 := Aside0.mk (B4.out.trans (hb.mono B4.out.size))
  have H5c := Aside0.mk (H5b.out.below' hb)
  have H6c := Aside0.mk (H6.out.below' hb)
  clear hb B4 H5b H6 cx0 cx1 cx2 cx3 cx4 cx5 cx6 cx7 cx8 cx9 cx10
  go_upto_region 4 with (first | ((with_reducible refine gate_store (t := 28) (p := 8) (v := .tmp 23) rfl ?_); refine wpList_store_new rfl 28 (.tmp 8) (.tmp 23) rfl _ rfl _ ([.int .u64 v0, .int .u64 v1, .int .u64 v2] : List Value).toArray rfl rfl (by kernel_rfl) rfl (by kernel_rfl) ?_))
  obtain ⟨b8, hb0⟩ : ∃ x, w5.heap.size = x := ⟨_, rfl⟩
  have H8 := Aside0.mk (show HoldsV 28 (w5.alloc (.cells ([.int .u64 v0, .int .u64 v1, .int .u64 v2] : List Value).toArray 28)) b8 [.int .u64 v0, .int .u64 v1, .int .u64 v2] by rw [← hb0]; exact heap_new _ _)
  have B6 := Aside0.mk (B5.out.alloc B5.out.size (.cells ([.int .u64 v0, .int .u64 v1, .int .u64 v2] : List Value).toArray 28))
  obtain ⟨w6, hw⟩ : ∃ x, w5.alloc (.cells ([.int .u64 v0, .int .u64 v1, .int .u64 v2] : List Value).toArray 28) = x := ⟨_, rfl⟩
  rw [hw] at H8 B6 ⊢
  rw [hb0]
  clear hb0
  have H5d := Aside0.mk (show HoldsV 24 w6 b5 [.int .i64 xk, .int .i64 xc, .int .i64 xv, .int .i64 xs, .int .i64 xg, .int .u32 ca, .int .i64 xt, .bool b, .bool d, .int .i64 xq, .int .u32 u] by rw [← hw]; exact heap_old H5c.out)
  have H6d := Aside0.mk (show HoldsV 28 w6 b6 [.int .u64 v0, .int .u64 v1, .int .u64 v2] by rw [← hw]; exact heap_old H6c.out)
  clear hw B5 H5c H6c
  have cx0 := H6d.out.cell 0; have cx1 := H6d.out.cell 1; have cx2 := H6d.out.cell 2; simp only [List.getElem?_cons_zero, List.getElem?_cons_succ] at cx0 cx1 cx2
  go_upto_if 25 with fail
  refine (KG.out w6 (GLW.out.below B6.out GLW.out.size)).mono ?_
  rintro e w7 ⟨rfl, hb⟩
  have B7 := Aside0.mk (B6.out.trans (hb.mono B6.out.size))
  have H5e := Aside0.mk (H5d.out.below' hb)
  have H6e := Aside0.mk (H6d.out.below' hb)
  have H8e := Aside0.mk (H8.out.below' hb)
  clear hb B6 H5d H6d H8 cx0 cx1 cx2
  go_upto_region 5 with (first | ((with_reducible refine gate_store (t := 24) (p := 10) (v := .tmp 28) rfl ?_); refine wpList_store_new rfl 24 (.tmp 10) (.tmp 28) rfl _ rfl _ ([.int .i64 0, .int .i64 0, .int .i64 0, .int .i64 0, .int .i64 0, .int .u32 0, .int .i64 0, .bool false, .bool false, .int .i64 0, .int .u32 0] : List Value).toArray rfl rfl (by kernel_rfl) rfl (by kernel_rfl) ?_))
  obtain ⟨b10, hb0⟩ : ∃ x, w7.heap.size = x := ⟨_, rfl⟩
  have H10 := Aside0.mk (show HoldsV 24 (w7.alloc (.cells ([.int .i64 0, .int .i64 0, .int .i64 0, .int .i64 0, .int .i64 0, .int .u32 0, .int .i64 0, .bool false, .bool false, .int .i64 0, .int .u32 0] : List Value).toArray 24)) b10 [.int .i64 0, .int .i64 0, .int .i64 0, .int .i64 0, .int .i64 0, .int .u32 0, .int .i64 0, .bool false, .bool false, .int .i64 0, .int .u32 0] by rw [← hb0]; exact heap_new _ _)
  have B8 := Aside0.mk (B7.out.alloc B7.out.size (.cells ([.int .i64 0, .int .i64 0, .int .i64 0, .int .i64 0, .int .i64 0, .int .u32 0, .int .i64 0, .bool false, .bool false, .int .i64 0, .int .u32 0] : List Value).toArray 24))
  obtain ⟨w8, hw⟩ : ∃ x, w7.alloc (.cells ([.int .i64 0, .int .i64 0, .int .i64 0, .int .i64 0, .int .i64 0, .int .u32 0, .int .i64 0, .bool false, .bool false, .int .i64 0, .int .u32 0] : List Value).toArray 24) = x := ⟨_, rfl⟩
  rw [hw] at H10 B8 ⊢
  rw [hb0]
  clear hb0
  have H5f := Aside0.mk (show HoldsV 24 w8 b5 [.int .i64 xk, .int .i64 xc, .int .i64 xv, .int .i64 xs, .int .i64 xg, .int .u32 ca, .int .i64 xt, .bool b, .bool d, .int .i64 xq, .int .u32 u] by rw [← hw]; exact heap_old H5e.out)
  have H6f := Aside0.mk (show HoldsV 28 w8 b6 [.int .u64 v0, .int .u64 v1, .int .u64 v2] by rw [← hw]; exact heap_old H6e.out)
  have H8f := Aside0.mk (show HoldsV 28 w8 b8 [.int .u64 v0, .int .u64 v1, .int .u64 v2] by rw [← hw]; exact heap_old H8e.out)
  clear hw B7 H5e H6e H8e
  go_wp2_with fail
  refine (FrameA.awake_calls _ (GLW.out.below B8.out GLW.out.size)).mono ?_
  rintro e w9 ⟨rfl, hb⟩
  have BC := B8.out.trans (hb.mono B8.out.size)
  have h5 := H5f.out.below' hb
  have h6 := H6f.out.below' hb
  have h8 := H8f.out.below' hb
  have h10 := H10.out.below' hb
  clear hb B8 H5f H6f H8f H10
  have ce0 := h5.cell 0; have ce1 := h5.cell 1; have ce2 := h5.cell 2; have ce3 := h5.cell 3; have ce4 := h5.cell 4; have ce5 := h5.cell 5; have ce6 := h5.cell 6; have ce7 := h5.cell 7; have ce8 := h5.cell 8; have ce9 := h5.cell 9; have ce10 := h5.cell 10; simp only [List.getElem?_cons_zero, List.getElem?_cons_succ] at ce0 ce1 ce2 ce3 ce4 ce5 ce6 ce7 ce8 ce9 ce10
  have cf0 := h6.cell 0; have cf1 := h6.cell 1; have cf2 := h6.cell 2; simp only [List.getElem?_cons_zero, List.getElem?_cons_succ] at cf0 cf1 cf2
  have ch0 := h8.cell 0; have ch1 := h8.cell 1; have ch2 := h8.cell 2; simp only [List.getElem?_cons_zero, List.getElem?_cons_succ] at ch0 ch1 ch2
  have cg0 := h10.cell 0; have cg1 := h10.cell 1; have cg2 := h10.cell 2; have cg3 := h10.cell 3; have cg4 := h10.cell 4; have cg5 := h10.cell 5; have cg6 := h10.cell 6; have cg7 := h10.cell 7; have cg8 := h10.cell 8; have cg9 := h10.cell 9; have cg10 := h10.cell 10; simp only [List.getElem?_cons_zero, List.getElem?_cons_succ] at cg0 cg1 cg2 cg3 cg4 cg5 cg6 cg7 cg8 cg9 cg10
  have exk : (xk == xk) = true := beq_self_eq_true _; have exc : (xc == xc) = true := beq_self_eq_true _; have exv : (xv == xv) = true := beq_self_eq_true _; have exs : (xs == xs) = true := beq_self_eq_true _; have exg : (xg == xg) = true := beq_self_eq_true _; have eca : (ca == ca) = true := beq_self_eq_true _; have ext : (xt == xt) = true := beq_self_eq_true _; have eb : (b == b) = true := beq_self_eq_true _; have ed : (d == d) = true := beq_self_eq_true _; have exq : (xq == xq) = true := beq_self_eq_true _; have eu : (u == u) = true := beq_self_eq_true _; have ev0 : (v0 == v0) = true := beq_self_eq_true _; have ev1 : (v1 == v1) = true := beq_self_eq_true _; have ev2 : (v2 == v2) = true := beq_self_eq_true _
  go_wp2_with (first | (go_at_call 18; with_reducible refine (KM.out _).mono ?_; rintro e wa ⟨rfl, hb⟩; replace BC := BC.trans (hb.mono BC.size); replace h5 := h5.below' hb; replace h10 := h10.below' hb; clear hb; have ce0 := h5.cell 0; have ce1 := h5.cell 1; have ce2 := h5.cell 2; have ce3 := h5.cell 3; have ce4 := h5.cell 4; have ce5 := h5.cell 5; have ce6 := h5.cell 6; have ce7 := h5.cell 7; have ce8 := h5.cell 8; have ce9 := h5.cell 9; have ce10 := h5.cell 10; simp only [List.getElem?_cons_zero, List.getElem?_cons_succ] at ce0 ce1 ce2 ce3 ce4 ce5 ce6 ce7 ce8 ce9 ce10; have cg0 := h10.cell 0; have cg1 := h10.cell 1; have cg2 := h10.cell 2; have cg3 := h10.cell 3; have cg4 := h10.cell 4; have cg5 := h10.cell 5; have cg6 := h10.cell 6; have cg7 := h10.cell 7; have cg8 := h10.cell 8; have cg9 := h10.cell 9; have cg10 := h10.cell 10; simp only [List.getElem?_cons_zero, List.getElem?_cons_succ] at cg0 cg1 cg2 cg3 cg4 cg5 cg6 cg7 cg8 cg9 cg10))
  go_ret
  exact ⟨rfl, BC⟩

/-- What a frame's words are got back as. -/
theorem get_back (k c v s g ca t q u : Nat) (b d : Bool) (hok : okF k c v s g t q = true) (hca : ca < 2 ^ 32) (hu : u < 2 ^ 32) (W : World) (gl : Cells W) :
    Calls Tryd.prog 16 #[.agg #[.int .u64 (word0 k c v s g t b d : Int), .int .u64 ((ca + u * 4294967296 : Nat) : Int), .int .u64 (q : Int)]] W fun r w' => r = .returned (.tuple #[.agg #[.int .i64 (k : Int), .int .i64 (c : Int), .int .i64 (v : Int), .int .i64 (s : Int), .int .i64 (g : Int), .int .u32 (ca : Int), .int .i64 (t : Int), .bool b, .bool d, .int .i64 (q : Int), .int .u32 (u : Int)], .int .i64 0]) ∧ Below W.heap.size W w' := by
  have h0 := of_decide_eq_true hok
  have hw := word0_lt (b := b) (d := d) hok
  have h := FrameA.get_any (word0 k c v s g t b d) (ca + u * 4294967296) q (by omega) (by omega) (by omega) W gl
  obtain ⟨e1, e2, e3, e4, e5, e6, e7, e8⟩ := gets (b := b) (d := d) hok
  have e9 : getN q 0 16 = q := by unfold getN; simp only [Nat.reducePow]; omega
  have e10 : getN (ca + u * 4294967296) 0 32 = ca := by unfold getN; simp only [Nat.reducePow]; omega
  have e11 : getN (ca + u * 4294967296) 32 32 = u := by unfold getN; simp only [Nat.reducePow]; omega
  have hi : FrameA.isF (word0 k c v s g t b d) q = true := by
    unfold FrameA.isF
    rw [e1, e2, e3, e4, e5, e8, e9, hok, decide_eq_true hw, decide_eq_true (show q < 65536 by omega)]
    rfl
  have hb : ∀ b, (((nB b : Nat) : Int) == 1) = b := fun b => by cases b <;> decide
  rw [hi, e1, e2, e3, e4, e5, e6, e7, e8, e9, e10, e11, hb, hb] at h
  exact h
theorem walk (a0_0 : Int) (a0_1 : Int) (a0_2 : Int) (a0_3 : Int) (a0_4 : Int) (a0_5 : Int) (a0_6 : Int) (a0_7 : Bool) (a0_8 : Bool) (a0_9 : Int) (a0_10 : Int) (a1 : Int) (W : World) (w0_0 : (Lit.int .i64 a0_0).wf = true) (w0_1 : (Lit.int .i64 a0_1).wf = true) (w0_2 : (Lit.int .i64 a0_2).wf = true) (w0_3 : (Lit.int .i64 a0_3).wf = true) (w0_4 : (Lit.int .i64 a0_4).wf = true) (w0_5 : (Lit.int .u32 a0_5).wf = true) (w0_6 : (Lit.int .i64 a0_6).wf = true) (w0_9 : (Lit.int .i64 a0_9).wf = true) (w0_10 : (Lit.int .u32 a0_10).wf = true) (w1 : (Lit.int .i64 a1).wf = true) (gl : LaidFrame.Cells W) :
    Calls Tryd.prog 3 #[.agg #[.int .i64 a0_0, .int .i64 a0_1, .int .i64 a0_2, .int .i64 a0_3, .int .i64 a0_4, .int .u32 a0_5, .int .i64 a0_6, .bool a0_7, .bool a0_8, .int .i64 a0_9, .int .u32 a0_10], .int .i64 a1] W fun e W' => e = .returned (.bool true) ∧ Below W.heap.size W W' := by
  obtain ⟨r, hr⟩ : ∃ n : Nat, a1 % 32 = (n : Int) := ⟨(a1 % 32).toNat, by omega⟩
  obtain ⟨kn, hkn⟩ : ∃ n : Nat, a0_0 % 256 = (n : Int) := ⟨(a0_0 % 256).toNat, by omega⟩
  obtain ⟨c1, hc1⟩ : ∃ n : Nat, a0_1 % 4 = (n : Int) := ⟨(a0_1 % 4).toNat, by omega⟩
  obtain ⟨v1, hv1⟩ : ∃ n : Nat, a0_2 % 4 = (n : Int) := ⟨(a0_2 % 4).toNat, by omega⟩
  obtain ⟨s1, hs1⟩ : ∃ n : Nat, a0_3 % 16 = (n : Int) := ⟨(a0_3 % 16).toNat, by omega⟩
  obtain ⟨g1, hg1⟩ : ∃ n : Nat, a0_4 % 16777216 = (n : Int) := ⟨(a0_4 % 16777216).toNat, by omega⟩
  obtain ⟨t1, ht1⟩ : ∃ n : Nat, a0_6 % 16 = (n : Int) := ⟨(a0_6 % 16).toNat, by omega⟩
  obtain ⟨q1, hq1⟩ : ∃ n : Nat, a0_9 % 65536 = (n : Int) := ⟨(a0_9 % 65536).toNat, by omega⟩
  have hu : 0 ≤ a0_10 ∧ a0_10 < 4294967296 := by simp [Lit.wf, IntKind.min, IntKind.max, IntKind.signed, IntKind.bits] at w0_10; omega
  have hca : 0 ≤ a0_5 ∧ a0_5 < 4294967296 := by simp [Lit.wf, IntKind.min, IntKind.max, IntKind.signed, IntKind.bits] at w0_5; omega
  obtain ⟨un, rfl⟩ := Int.eq_ofNat_of_zero_le hu.1
  obtain ⟨can, rfl⟩ := Int.eq_ofNat_of_zero_le hca.1
  obtain ⟨xk, xc, xv, xs, xg, xt, xq, NEAR⟩ : ∃ xk xc xv xs xg xt xq : Int, ∀ w, Calls Tryd.prog 13 #[.agg #[.int .i64 a0_0, .int .i64 a0_1, .int .i64 a0_2, .int .i64 a0_3, .int .i64 a0_4, .int .u32 (can : Int), .int .i64 a0_6, .bool a0_7, .bool a0_8, .int .i64 a0_9, .int .u32 (un : Int)], .int .i64 a1] w
      fun e w' => e = .returned (.agg #[.int .i64 xk, .int .i64 xc, .int .i64 xv, .int .i64 xs, .int .i64 xg, .int .u32 (can : Int), .int .i64 xt, .bool a0_7, .bool a0_8, .int .i64 xq, .int .u32 (un : Int)]) ∧ Below w.heap.size w w' :=
    ⟨_, _, _, _, _, _, _, fun w => near_core a0_0 a0_1 a0_2 a0_3 a0_4 can a0_6 a0_7 a0_8 a0_9 un a1 w r kn (kn % 10) c1 v1 s1 g1 t1 q1 _ _ _ _ _ _ _ (by rw [i64_and31]; exact hr) (by rw [i64_and255]; exact hkn) (by rw [Int.tmod_eq_emod_of_nonneg (by omega)]; omega) (by omega)
      (by rw [i64_and3]; exact hc1) (by rw [i64_and3]; exact hv1) (by rw [i64_and15]; exact hs1) (by rw [i64_and24]; exact hg1) (by rw [i64_and15]; exact ht1) (by rw [i64_and65535]; exact hq1) ⟨rfl, rfl, rfl, rfl, rfl, rfl, rfl⟩⟩
  cases hd : decide (1 ≤ xk ∧ xk ≤ 10 ∧ 0 ≤ xc ∧ xc ≤ 3 ∧ 0 ≤ xv ∧ xv ≤ 3 ∧ 0 ≤ xs ∧ xs ≤ 15 ∧ 0 ≤ xg ∧ xg ≤ 16777215 ∧ 0 ≤ xt ∧ xt ≤ 15 ∧ 0 ≤ xq ∧ xq ≤ 65535) with
  | true =>
    have h := of_decide_eq_true hd
    obtain ⟨k, rfl⟩ := Int.eq_ofNat_of_zero_le (show 0 ≤ xk by omega)
    obtain ⟨c, rfl⟩ := Int.eq_ofNat_of_zero_le (show 0 ≤ xc by omega)
    obtain ⟨v, rfl⟩ := Int.eq_ofNat_of_zero_le (show 0 ≤ xv by omega)
    obtain ⟨s, rfl⟩ := Int.eq_ofNat_of_zero_le (show 0 ≤ xs by omega)
    obtain ⟨g, rfl⟩ := Int.eq_ofNat_of_zero_le (show 0 ≤ xg by omega)
    obtain ⟨t, rfl⟩ := Int.eq_ofNat_of_zero_le (show 0 ≤ xt by omega)
    obtain ⟨q, rfl⟩ := Int.eq_ofNat_of_zero_le (show 0 ≤ xq by omega)
    have hok : okF k c v s g t q = true := decide_eq_true (by omega)
    exact core_ok a0_0 a0_1 a0_2 a0_3 a0_4 can a0_6 a0_7 a0_8 a0_9 un a1 k c v s g t q _ _ _ NEAR (fun w gw => FrameA.put_ok k c v s g can t q un a0_7 a0_8 hok (by omega) (by omega) w gw) (fun w => FrameR.ref_ok k c v s g can t q un a0_7 a0_8 hok (by omega) (by omega) w)
      (fun w gw => get_back k c v s g can t q un a0_7 a0_8 hok (by omega) (by omega) w gw) (fun w => frame_May.calls k c v s g can t a0_7 a0_8 q un true w (by rw [may_nat, hok])) W gl
  | false =>
    have hf : frame_May.f xk xc xv xs xg can xt a0_7 a0_8 xq un = some false := by rw [frame_may_eq, hd]
    refine core_bad a0_0 a0_1 a0_2 a0_3 a0_4 can a0_6 a0_7 a0_8 a0_9 un a1 xk xc xv xs xg xt xq 0 0 0 NEAR (fun w _ => FrameP.put_none xk xc xv xs xg can xt xq un a0_7 a0_8 hf w) (fun w => FrameR.ref_bad xk xc xv xs xg can xt xq un a0_7 a0_8 hd w) (fun w gw => ?_)
      (fun w => frame_May.calls xk xc xv xs xg can xt a0_7 a0_8 xq un false w hf) W gl
    have h := FrameA.get_any 0 0 0 (by decide) (by decide) (by decide) w gw
    rw [show FrameA.isF 0 0 = false by decide +kernel] at h
    exact h
end Go.Proofs.YthonkcldddfpnaaDoor.walkFramePuts
