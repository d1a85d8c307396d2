/- A table of slots: one is back; a new one. -/
import Derived.Test.YthonkcldddfpnaaDoorTable
import Derived.Test.YthonkcldddfpnaaDoorRegInv
import Derived.Deep.WholeRow
namespace Go.Proofs.YthonkcldddfpnaaDoor.Table
open Go.RowKit Go.Proofs.YthonkcldddfpnaaDoorW.PrintWords Go.Proofs.YthonkcldddfpnaaDoorW.PrintLast Go.Proofs.YthonkcldddfpnaaDoorW.PrintMore Go.Proofs.YthonkcldddfpnaaDoor.Aid Go.Proofs.YthonkcldddfpnaaDoor.Quiet Go.Proofs.YthonkcldddfpnaaDoor.Blk Go.Proofs.YthonkcldddfpnaaDoor.State Go.Proofs.YthonkcldddfpnaaDoor.Vals Go.Proofs.YthonkcldddfpnaaDoor.SlotF Go.Proofs.YthonkcldddfpnaaDoor.Free
set_option linter.unusedVariables false
set_option linter.unusedSimpArgs false

section
variable {w : World} {t f fl fh k : Nat} {base gens ret : Int} {q : List Nat} {out : List Bool}
theorem back_nil (x : Nat) (hx : x < 2 ^ 64) (i : Int) (gl : LaidSlot.Cells w) : Calls Tryd.prog 38 #[.pointer none, .int .i64 i, .int .u64 (x : Int)] w fun r w' => r = .returned (.bool false) ∧ Below w.heap.size w w' := by
  have ST := Aside0.mk (Slot.st_calls x hx w gl)
  clear gl hx
  go_enter Tryd.func38, Tryd.ntmps38
  go_wp2_with fail
  refine ST.out.mono ?_
  rintro e w1 ⟨rfl, hb⟩
  have B1 := Aside0.mk hb
  clear hb ST
  go_wp2_with fail
  refine (cell_nil i _).mono ?_
  rintro e w2 ⟨rfl, hb⟩
  have B2 := Aside0.mk (B1.out.trans (hb.mono B1.out.size))
  clear hb B1
  go_wp2_with fail
  go_ret
  first | exact ⟨rfl, B2.out⟩ | exact ⟨rfl, below_drewN B2.out _⟩
set_option maxHeartbeats 1000000 in
theorem back_far (i : Int) (x : Nat) (hx : x < 2 ^ 64) (gl : LaidSlot.Cells w) (hi : i < 0 ∨ (k : Int) ≤ i) (h : Tb w t f fl fh base gens k q out ret) : Calls Tryd.prog 38 #[.pointer (some ⟨t, 0, none⟩), .int .i64 i, .int .u64 (x : Int)] w fun r w' => r = .returned (.bool false) ∧ Tb w' t f fl fh base gens k q out ret ∧ OnlyIn [t, f, fl, fh] w w' := by
  have H := Aside0.mk h
  have ST := Aside0.mk (Slot.st_calls x hx w gl)
  have HX := Aside0.mk hx
  clear h gl hx
  go_enter Tryd.func38, Tryd.ntmps38
  go_wp2_with fail
  refine ST.out.mono ?_
  rintro e w1 ⟨rfl, hb⟩
  have H1 := Aside0.mk (H.out.below' hb)
  have O1 := Aside0.mk (OnlyIn.of_below (S := [t, f, fl, fh]) hb)
  clear hb ST H
  go_wp2_with fail
  refine (cell_out i hi H1.out).mono ?_
  rintro e w2 ⟨rfl, hb⟩
  have H2 := Aside0.mk (H1.out.below' hb)
  have O2 := Aside0.mk (O1.out.next hb)
  clear hb H1 O1
  go_wp2_with fail
  go_ret
  first | exact ⟨rfl, H2.out, O2.out⟩ | exact ⟨rfl, H2.out.below' (below_drewN (Below.refl _ _) _), O2.out.next (below_drewN (Below.refl _ _) _)⟩
set_option maxHeartbeats 1000000 in
theorem back_not (i : Nat) (x : Nat) (hx : x < 2 ^ 64) (gl : LaidSlot.Cells w) (hi : i < k) (hout : out[i]?.getD false = false) (h : Tb w t f fl fh base gens k q out ret) : Calls Tryd.prog 38 #[.pointer (some ⟨t, 0, none⟩), .int .i64 (i : Int), .int .u64 (x : Int)] w fun r w' => r = .returned (.bool false) ∧ Tb w' t f fl fh base gens k q out ret ∧ OnlyIn [t, f, fl, fh] w w' := by
  have H := Aside0.mk h
  have ST := Aside0.mk (Slot.st_calls x hx w gl)
  have HX := Aside0.mk hx
  have hk := h.k16
  have hbb := h.b
  have hi16 : i < 16 := by omega
  have d0 : decide (base + (i : Int) < 0) = false := decide_eq_false (by omega)
  clear h gl hx
  go_enter Tryd.func38, Tryd.ntmps38
  go_wp2_with fail
  refine ST.out.mono ?_
  rintro e w1 ⟨rfl, hb⟩
  have H1 := Aside0.mk (H.out.below' hb)
  have O1 := Aside0.mk (OnlyIn.of_below (S := [t, f, fl, fh]) hb)
  clear hb ST H
  go_wp2_with fail
  refine (cell_in i hi H1.out).mono ?_
  rintro e w2 ⟨rfl, hb⟩
  have H2 := Aside0.mk (H1.out.below' hb)
  have O2 := Aside0.mk (O1.out.next hb)
  clear hb H1 O1
  have co := H2.out.co i hi16
  rw [hout] at co
  go_wp2_with fail
  go_ret
  first | exact ⟨rfl, H2.out, O2.out⟩ | exact ⟨rfl, H2.out.below' (below_drewN (Below.refl _ _) _), O2.out.next (below_drewN (Below.refl _ _) _)⟩
set_option maxHeartbeats 1000000 in
theorem back_state (i : Nat) (x : Nat) (hx : x < 2 ^ 64) (gl : LaidSlot.Cells w) (hi : i < k) (hout : out[i]?.getD false = true) (hs : stN x ≠ 0 ∧ stN x ≠ 3) (h : Tb w t f fl fh base gens k q out ret) : Calls Tryd.prog 38 #[.pointer (some ⟨t, 0, none⟩), .int .i64 (i : Int), .int .u64 (x : Int)] w fun r w' => r = .returned (.bool false) ∧ Tb w' t f fl fh base gens k q out ret ∧ OnlyIn [t, f, fl, fh] w w' := by
  have H := Aside0.mk h
  have ST := Aside0.mk (Slot.st_calls x hx w gl)
  have HX := Aside0.mk hx
  have hk := h.k16
  have hbb := h.b
  have hi16 : i < 16 := by omega
  have d0 : decide (base + (i : Int) < 0) = false := decide_eq_false (by omega)
  obtain ⟨z, hz⟩ : ∃ z : Int, (stN x : Int) = z := ⟨_, rfl⟩
  rw [hz] at ST
  have e0 : (z == 0) = false := by rw [beq_eq_false_iff_ne]; omega
  have e3 : (z == 3) = false := by rw [beq_eq_false_iff_ne]; omega
  have e5 : (z != 0) = true := by rw [bne, e0]; rfl
  have e6 : (z != 3) = true := by rw [bne, e3]; rfl
  clear hz hs
  clear h gl hx
  go_enter Tryd.func38, Tryd.ntmps38
  go_wp2_with fail
  refine ST.out.mono ?_
  rintro e w1 ⟨rfl, hb⟩
  have H1 := Aside0.mk (H.out.below' hb)
  have O1 := Aside0.mk (OnlyIn.of_below (S := [t, f, fl, fh]) hb)
  clear hb ST H
  go_wp2_with fail
  refine (cell_in i hi H1.out).mono ?_
  rintro e w2 ⟨rfl, hb⟩
  have H2 := Aside0.mk (H1.out.below' hb)
  have O2 := Aside0.mk (O1.out.next hb)
  clear hb H1 O1
  have co := H2.out.co i hi16
  rw [hout] at co
  go_wp2_with fail
  go_ret
  first | exact ⟨rfl, H2.out, O2.out⟩ | exact ⟨rfl, H2.out.below' (below_drewN (Below.refl _ _) _), O2.out.next (below_drewN (Below.refl _ _) _)⟩
set_option maxHeartbeats 1000000 in
theorem back_free (i : Nat) (x : Nat) (hx : x < 2 ^ 64) (gl : LaidSlot.Cells w) (hi : i < k) (hout : out[i]?.getD false = true) (hs : stN x = 0) (hq : i ∉ q) (h : Tb w t f fl fh base gens k q out ret) : Calls Tryd.prog 38 #[.pointer (some ⟨t, 0, none⟩), .int .i64 (i : Int), .int .u64 (x : Int)] w fun r w' => r = .returned (.bool true) ∧ Tb w' t f fl fh base gens k (q ++ [i]) (out.set i false) ret ∧ OnlyIn [t, f, fl, fh] w w' := by
  have H := Aside0.mk h
  have ST := Aside0.mk (Slot.st_calls x hx w gl)
  have HX := Aside0.mk hx
  have hk := h.k16
  have hbb := h.b
  have hi16 : i < 16 := by omega
  have d0 : decide (base + (i : Int) < 0) = false := decide_eq_false (by omega)
  rw [hs] at ST
  clear h gl hx
  go_enter Tryd.func38, Tryd.ntmps38
  go_wp2_with fail
  refine ST.out.mono ?_
  rintro e w1 ⟨rfl, hb⟩
  have H1 := Aside0.mk (H.out.below' hb)
  have O1 := Aside0.mk (OnlyIn.of_below (S := [t, f, fl, fh]) hb)
  clear hb ST H
  go_wp2_with fail
  refine (cell_in i hi H1.out).mono ?_
  rintro e w2 ⟨rfl, hb⟩
  have H2 := Aside0.mk (H1.out.below' hb)
  have O2 := Aside0.mk (O1.out.next hb)
  clear hb H1 O1
  have co := H2.out.co i hi16
  rw [hout] at co
  have fo := H2.out.box.free (4 + i)
  have H3 := Aside0.mk (H2.out.put i false hi16)
  have GV := Aside0.mk (give_at f fl fh k q i _ H3.out.fr hi hq)
  have O3 := Aside0.mk (O2.out.set ⟨t, 4 + i, none⟩ (.bool false) (by simp))
  have c3 := H3.out.c3
  go_wp2_with fail
  refine GV.out.mono ?_
  rintro e w3 ⟨rfl, hf, ho⟩
  have H4 := Aside0.mk (H3.out.free hf ho)
  have O4 := Aside0.mk (O3.out.trans (show OnlyIn [t, f, fl, fh] _ w3 from ⟨ho.os, ho.tape, ho.output, ho.size, fun b hb hn => ho.block b hb (by simp at hn ⊢; omega)⟩))
  clear hf ho
  go_wp2_with fail
  go_ret
  first | exact ⟨rfl, H4.out, O4.out⟩ | exact ⟨rfl, H4.out.below' (below_drewN (Below.refl _ _) _), O4.out.next (below_drewN (Below.refl _ _) _)⟩
set_option maxHeartbeats 1000000 in
theorem back_ret (i : Nat) (x : Nat) (hx : x < 2 ^ 64) (gl : LaidSlot.Cells w) (hi : i < k) (hout : out[i]?.getD false = true) (hs : stN x = 3) (hr : ret ≤ 999) (h : Tb w t f fl fh base gens k q out ret) : Calls Tryd.prog 38 #[.pointer (some ⟨t, 0, none⟩), .int .i64 (i : Int), .int .u64 (x : Int)] w fun r w' => r = .returned (.bool true) ∧ Tb w' t f fl fh base gens k q (out.set i false) (ret + 1) ∧ OnlyIn [t, f, fl, fh] w w' := by
  have H := Aside0.mk h
  have ST := Aside0.mk (Slot.st_calls x hx w gl)
  have HX := Aside0.mk hx
  have hk := h.k16
  have hbb := h.b
  have hi16 : i < 16 := by omega
  have d0 : decide (base + (i : Int) < 0) = false := decide_eq_false (by omega)
  have hr0 := h.r
  have kr : IntKind.i64.wrap (ret + 1) = ret + 1 := by rw [IntKind.wrap_i64]; omega
  rw [hs] at ST
  clear h gl hx
  go_enter Tryd.func38, Tryd.ntmps38
  go_wp2_with fail
  refine ST.out.mono ?_
  rintro e w1 ⟨rfl, hb⟩
  have H1 := Aside0.mk (H.out.below' hb)
  have O1 := Aside0.mk (OnlyIn.of_below (S := [t, f, fl, fh]) hb)
  clear hb ST H
  go_wp2_with fail
  refine (cell_in i hi H1.out).mono ?_
  rintro e w2 ⟨rfl, hb⟩
  have H2 := Aside0.mk (H1.out.below' hb)
  have O2 := Aside0.mk (O1.out.next hb)
  clear hb H1 O1
  have co := H2.out.co i hi16
  rw [hout] at co
  have fo := H2.out.box.free (4 + i)
  have H3 := Aside0.mk (H2.out.put i false hi16)
  have O3 := Aside0.mk (O2.out.set ⟨t, 4 + i, none⟩ (.bool false) (by simp))
  have cr := H3.out.cr
  have fr := H3.out.box.free 20
  have H4 := Aside0.mk (H3.out.retire hr)
  have O4 := Aside0.mk (O3.out.set ⟨t, 20, none⟩ (.int .i64 (ret + 1)) (by simp))
  go_wp2_with fail
  go_ret
  first | exact ⟨rfl, H4.out, O4.out⟩ | exact ⟨rfl, H4.out.below' (below_drewN (Below.refl _ _) _), O4.out.next (below_drewN (Below.refl _ _) _)⟩
end
def NF (W w : World) (f fl fh k : Nat) : Prop := FreeAt w f fl fh k (List.range k) ∧ (W.heap.size ≤ f ∧ W.heap.size ≤ fl ∧ W.heap.size ≤ fh)
theorem NF.next {W w w' : World} {f fl fh k : Nat} (h : NF W w f fl fh k) (hb : Below w.heap.size w w') : NF W w' f fl fh k := ⟨h.1.below' hb, h.2⟩
def MT (W w : World) (t f fl fh : Nat) (base gens : Int) (k : Nat) : Prop := HoldsV 104 w t (tbV base k gens f (List.replicate 16 false) 0) ∧ NF W w f fl fh k ∧ (t ≠ f ∧ t ≠ fl ∧ t ≠ fh ∧ W.heap.size ≤ t)
theorem MT.next {W w w' : World} {t f fl fh k : Nat} {base gens : Int} (h : MT W w t f fl fh base gens k) (hb : Below w.heap.size w w') : MT W w' t f fl fh base gens k := ⟨h.1.below' hb, h.2.1.next hb, h.2.2⟩
theorem NF.made {W w : World} {f fl fh k : Nat} {base gens : Int} (h : NF W w f fl fh k) (hs : W.heap.size ≤ w.heap.size) : MT W (w.alloc (.cells (tbV base k gens f (List.replicate 16 false) 0).toArray 104)) w.heap.size f fl fh base gens k :=
  ⟨heap_new _ _, h.next ((Below.refl _ _).alloc (Nat.le_refl _) _), by have := h.1.lt f (by simp); omega, by have := h.1.lt fl (by simp); omega, by have := h.1.lt fh (by simp); omega, hs⟩
structure RT (W : World) (gx k : Nat) (base gens : Int) (w0 : World) (D : Nat → Bool) (u6 u7 u8 u9 u10 u11 u2 : Value) (w : World) : Prop where
  below : Below w0.heap.size w0 w
  h0 : D 0 = true → u6 = .agg ([.int .i64 base, .int .i64 (k : Int), .int .i64 gens] : List Value).toArray
  h1 : D 1 = true → u7 = .pointer (some ⟨gx, 1, none⟩)
  h2 : D 2 = true → u8 = .int .i64 (k : Int)
  hx : HoldsV 70 w gx [.int .i64 base, .int .i64 (k : Int), .int .i64 gens]
  x3 : D 3 = true → ∃ f fl fh, u9 = .pointer (some ⟨f, 0, none⟩) ∧ NF W w f fl fh k
  x4 : D 4 = true → ∃ f fl fh, u10 = .agg (tbV base k gens f (List.replicate 16 false) 0).toArray ∧ NF W w f fl fh k
  x5 : D 5 = true → ∃ t f fl fh, u11 = .pointer (some ⟨t, 0, none⟩) ∧ MT W w t f fl fh base gens k
  x6 : D 6 = true → ∃ t f fl fh, u2 = .pointer (some ⟨t, 0, none⟩) ∧ MT W w t f fl fh base gens k
theorem new_nil (a b c : Int) (W : World) (hm : PTableMay.table_May.f a b c = some false) : Calls Tryd.prog 37 #[.agg #[.int .i64 a, .int .i64 b, .int .i64 c]] W fun r w' => r = .returned (.pointer none) ∧ Below W.heap.size W w' := by
  have KM := Aside0.mk (fun w => PTableMay.table_May.calls a b c false w hm)
  have hu70 := Tryd.underlying70
  clear hm
  go_enter Tryd.func37, Tryd.ntmps37
  go_wp2_with fail
  refine (KM.out _).mono ?_
  rintro e w1 ⟨rfl, hb⟩
  have B1 := Aside0.mk (((Below.refl W.heap.size W).alloc (Nat.le_refl _) (.cells #[.int .i64 a, .int .i64 b, .int .i64 c] 70)).trans (hb.mono (by simp)))
  clear hb
  go_wp2_with fail
  go_ret
  exact ⟨rfl, B1.out⟩
set_option maxHeartbeats 2000000 in
set_option maxRecDepth 100000 in
theorem new_at (base gens : Int) (k : Nat) (W : World) (hm : PTableMay.table_May.f base k gens = some true) (hk : 1 ≤ k ∧ k ≤ 16) (hbs : 0 ≤ base ∧ base ≤ 16384) :
    Calls Tryd.prog 37 #[.agg #[.int .i64 base, .int .i64 (k : Int), .int .i64 gens]] W fun r w' => ∃ t f fl fh, r = .returned (.pointer (some ⟨t, 0, none⟩)) ∧ Tb w' t f fl fh base gens k (List.range k) (List.replicate 16 false) 0 ∧ (W.heap.size ≤ t ∧ W.heap.size ≤ f ∧ W.heap.size ≤ fl ∧ W.heap.size ≤ fh) ∧ Below W.heap.size W w' := by
  have KM := Aside0.mk (fun w => PTableMay.table_May.calls base k gens true w hm)
  have KN := Aside0.mk (fun w => Free.new_at (k : Int) k w (by unfold mn mx; split <;> split <;> omega))
  have HF := Aside0.mk (And.intro hk hbs)
  have hu70 := Tryd.underlying70
  clear hm hk hbs
  go_enter Tryd.func37, Tryd.ntmps37
  go_wp2_with fail
  obtain ⟨gx, hgx⟩ : ∃ x, W.heap.size = x := ⟨_, rfl⟩
  have HX := Aside0.mk (show HoldsV 70 (W.alloc (.cells #[.int .i64 base, .int .i64 (k : Int), .int .i64 gens] 70)) gx [.int .i64 base, .int .i64 (k : Int), .int .i64 gens] by rw [← hgx]; exact heap_new _ _)
  refine (KM.out _).mono ?_
  rintro e w1 ⟨rfl, hb⟩
  have HX4 := Aside0.mk (HX.out.below' hb)
  have B4 := Aside0.mk (((Below.refl W.heap.size W).alloc (Nat.le_refl _) (.cells #[.int .i64 base, .int .i64 (k : Int), .int .i64 gens] 70)).trans (hb.mono (by simp)))
  clear hb HX
  go_upto_region 3 with fail
  try simp only [hgx]
  clear hgx
  go_cut [2] from 6 to 11 (fun v wx => ∃ t f fl fh, v = .pointer (some ⟨t, 0, none⟩) ∧ MT W wx t f fl fh base gens k ∧ Below W.heap.size W wx)
  case first =>
    refine RegInv.wp_region_steps (I := fun D a w => ∃ u6 u7 u8 u9 u10 u11 u2, a = ⟨(.agg #[.int .i64 base, .int .i64 (k : Int), .int .i64 gens] :: .pointer (some ⟨gx, 0, none⟩) :: u2 :: .agg #[.int .i64 base, .int .i64 (k : Int), .int .i64 gens] :: .bool true :: .bool false :: u6 :: u7 :: u8 :: u9 :: u10 :: u11 :: []).toArray, []⟩ ∧ RT W gx k base gens W D u6 u7 u8 u9 u10 u11 u2 w) (by kernel_rfl) (by kernel_rfl) ?_ ?_ ?_
    · exact ⟨_, _, _, _, _, _, _, rfl, ⟨B4.out.drew, fun h => (by cases h), fun h => (by cases h), fun h => (by cases h), HX4.out.below' ((Below.refl _ _).drew), fun h => (by cases h), fun h => (by cases h), fun h => (by cases h), fun h => (by cases h)⟩⟩
    · rintro D a w ⟨u6, u7, u8, u9, u10, u11, u2, rfl, hR⟩ hall
      obtain rfl := hR.h0 (hall 0 (by decide))
      obtain rfl := hR.h1 (hall 1 (by decide))
      obtain rfl := hR.h2 (hall 2 (by decide))
      obtain ⟨t, f, fl, fh, rfl, hn⟩ := hR.x6 (hall 6 (by decide))
      go_wp2_with fail
      go_meet
      exact ⟨t, f, fl, fh, rfl, hn, hR.below⟩
    · refine RegInv.Steps.cons (fun D a w hI hD hdep K hK => ?_) ?_
      · obtain ⟨u6, u7, u8, u9, u10, u11, u2, rfl, hR⟩ := hI
        rw [if_pos (by rfl)]
        refine wp_load_row 70 (.tmp 1) rfl gx rfl 70 _ (0, 0) _ hR.hx Tryd.underlying70 rfl (by kernel_rfl) ?_
        exact hK.out _ _ ⟨_, _, _, _, _, _, _, rfl, ⟨hR.below, fun _ => rfl, hR.h1, hR.h2, hR.hx, hR.x3, hR.x4, hR.x5, hR.x6⟩⟩
      refine RegInv.Steps.cons (fun D a w hI hD hdep K hK => ?_) ?_
      · obtain ⟨u6, u7, u8, u9, u10, u11, u2, rfl, hR⟩ := hI
        rw [if_pos (by rfl)]
        go_simp
        exact hK.out _ _ ⟨_, _, _, _, _, _, _, rfl, ⟨hR.below, hR.h0, fun _ => rfl, hR.h2, hR.hx, hR.x3, hR.x4, hR.x5, hR.x6⟩⟩
      refine RegInv.Steps.cons (fun D a w hI hD hdep K hK => ?_) ?_
      · obtain ⟨u6, u7, u8, u9, u10, u11, u2, rfl, hR⟩ := hI
        have d1 : D 1 = true := hdep ⟨1, .data⟩ (by simp) rfl
        obtain rfl := hR.h1 d1
        have c1 := hR.hx.cell 1
        simp only [List.getElem?_cons_zero, List.getElem?_cons_succ] at c1
        rw [if_pos (by rfl)]
        go_simp
        exact hK.out _ _ ⟨_, _, _, _, _, _, _, rfl, ⟨hR.below, hR.h0, hR.h1, fun _ => rfl, hR.hx, hR.x3, hR.x4, hR.x5, hR.x6⟩⟩
      refine RegInv.Steps.cons (fun D a w hI hD hdep K hK => ?_) ?_
      · obtain ⟨u6, u7, u8, u9, u10, u11, u2, rfl, hR⟩ := hI
        have d2 : D 2 = true := hdep ⟨2, .data⟩ (by simp) rfl
        obtain rfl := hR.h2 d2
        rw [if_pos (by rfl)]
        go_simp
        with_reducible refine (KN.out _).mono ?_
        rintro e w9 ⟨rfl, hb9, fl, fh, hf1, hf2, hf3⟩
        exact hK.out _ _ ⟨_, _, _, _, _, _, _, rfl, ⟨hR.below.trans (hb9.mono hR.below.size), hR.h0, hR.h1, hR.h2, hR.hx.below' hb9, fun _ => ⟨w.heap.size + 2, fl, fh, rfl, hf3, by have := hR.below.size; omega⟩, fun h => (hR.x4 h).imp fun _ h => h.imp fun _ h => h.imp fun _ h => ⟨h.1, h.2.next hb9⟩, fun h => (hR.x5 h).imp fun _ h => h.imp fun _ h => h.imp fun _ h => h.imp fun _ h => ⟨h.1, h.2.next hb9⟩, fun h => (hR.x6 h).imp fun _ h => h.imp fun _ h => h.imp fun _ h => h.imp fun _ h => ⟨h.1, h.2.next hb9⟩⟩⟩
      refine RegInv.Steps.cons (fun D a w hI hD hdep K hK => ?_) ?_
      · obtain ⟨u6, u7, u8, u9, u10, u11, u2, rfl, hR⟩ := hI
        have d0 : D 0 = true := hdep ⟨0, .data⟩ (by simp) rfl
        obtain rfl := hR.h0 d0
        have d3 : D 3 = true := hdep ⟨3, .data⟩ (by simp) rfl
        obtain ⟨f, fl, fh, rfl, hn⟩ := hR.x3 d3
        rw [if_pos (by rfl)]
        go_simp
        exact hK.out _ _ ⟨_, _, _, _, _, _, _, rfl, ⟨hR.below, hR.h0, hR.h1, hR.h2, hR.hx, hR.x3, fun _ => ⟨f, fl, fh, rfl, hn⟩, hR.x5, hR.x6⟩⟩
      refine RegInv.Steps.cons (fun D a w hI hD hdep K hK => ?_) ?_
      · obtain ⟨u6, u7, u8, u9, u10, u11, u2, rfl, hR⟩ := hI
        have d4 : D 4 = true := hdep ⟨4, .data⟩ (by simp) rfl
        obtain ⟨f, fl, fh, rfl, hn⟩ := hR.x4 d4
        have hb9 : Below w.heap.size w (w.alloc (.cells (tbV base k gens f (List.replicate 16 false) 0).toArray 104)) := (Below.refl _ _).alloc (Nat.le_refl _) _
        rw [if_pos (by rfl)]
        go_simp
        exact hK.out _ _ ⟨_, _, _, _, _, _, _, rfl, ⟨hR.below.trans (hb9.mono hR.below.size), hR.h0, hR.h1, hR.h2, hR.hx.below' hb9, fun h => (hR.x3 h).imp fun _ h => h.imp fun _ h => h.imp fun _ h => ⟨h.1, h.2.next hb9⟩, fun h => (hR.x4 h).imp fun _ h => h.imp fun _ h => h.imp fun _ h => ⟨h.1, h.2.next hb9⟩, fun _ => ⟨w.heap.size, f, fl, fh, rfl, hn.made hR.below.size⟩, fun h => (hR.x6 h).imp fun _ h => h.imp fun _ h => h.imp fun _ h => h.imp fun _ h => ⟨h.1, h.2.next hb9⟩⟩⟩
      refine RegInv.Steps.cons (fun D a w hI hD hdep K hK => ?_) ?_
      · obtain ⟨u6, u7, u8, u9, u10, u11, u2, rfl, hR⟩ := hI
        have d5 : D 5 = true := hdep ⟨5, .data⟩ (by simp) rfl
        obtain ⟨t, f, fl, fh, rfl, hn⟩ := hR.x5 d5
        rw [if_pos (by rfl)]
        go_simp
        exact hK.out _ _ ⟨_, _, _, _, _, _, _, rfl, ⟨hR.below, hR.h0, hR.h1, hR.h2, hR.hx, hR.x3, hR.x4, hR.x5, fun _ => ⟨t, f, fl, fh, rfl, hn⟩⟩⟩
      exact RegInv.Steps.nil
  case rest =>
    obtain ⟨t, f, fl, fh, rfl, hm, hb⟩ := hcut
    go_wp2_with fail
    go_ret
    exact ⟨t, f, fl, fh, rfl, ⟨hm.1, hm.2.1.1, by simp, ⟨hm.2.2.1, hm.2.2.2.1, hm.2.2.2.2.1⟩, HF.out.1, HF.out.2, by omega⟩, ⟨hm.2.2.2.2.2, hm.2.1.2.1, hm.2.1.2.2.1, hm.2.1.2.2.2⟩, hb⟩
end Go.Proofs.YthonkcldddfpnaaDoor.Table
