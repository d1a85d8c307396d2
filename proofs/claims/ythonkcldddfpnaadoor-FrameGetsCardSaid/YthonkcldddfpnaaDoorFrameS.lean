/- The reference's frame of words. -/
import Derived.Test.YthonkcldddfpnaaDoorFrameR
import Derived.Test.YthonkcldddfpnaaDoorFrameA
import Derived.Deep.WholeRow
import Derived.ChangeKeysEq
namespace Go.Proofs.YthonkcldddfpnaaDoor.FrameS
open Go.RowKit Go.Proofs.YthonkcldddfpnaaDoor.PFrameGets Go.Proofs.YthonkcldddfpnaaDoorW.PrintWords Go.Proofs.YthonkcldddfpnaaDoorW.PrintLast Go.Proofs.YthonkcldddfpnaaDoorW.PrintMore Go.Proofs.YthonkcldddfpnaaDoor.Aid Go.Proofs.YthonkcldddfpnaaDoor.Quiet Go.Proofs.YthonkcldddfpnaaDoor.Blk Go.Proofs.YthonkcldddfpnaaDoor.State Go.Proofs.YthonkcldddfpnaaDoor.Vals Go.Proofs.YthonkcldddfpnaaDoor.FieldMath Go.Proofs.YthonkcldddfpnaaDoor.FrameF Go.Proofs.YthonkcldddfpnaaDoor.FrameQ Go.Proofs.YthonkcldddfpnaaDoor.FrameR
set_option linter.unusedVariables false
set_option linter.unusedSimpArgs false
attribute [local go_sem] max2_int min2_int max_two min_two
theorem eqA28 (d : Nat) (w : World) (x0 x1 x2 y0 y1 y2 : Int) : (Op.equalIn (d + 2) 28 (.agg #[.int .u64 x0, .int .u64 x1, .int .u64 x2]) (.agg #[.int .u64 y0, .int .u64 y1, .int .u64 y2])).run Tryd.prog w = .ok (x0 == y0 && (x1 == y1 && (x2 == y2))) w := by
  obtain ⟨i, hi⟩ : ∃ i, Tryd.prog.info? 26 = some i := Option.isSome_iff_exists.1 (by kernel_rfl)
  have hc : Tryd.prog.cellsOf 26 = 1 := by kernel_rfl
  have hr : List.range 3 = [0, 1, 2] := by decide
  rw [run_equalIn_array w (d + 1) _ _ Tryd.underlying28 hi, hc, hr]
  simp only [Op.eqItems]
  go_simp
  by_cases h0 : x0 = y0 <;> by_cases h1 : x1 = y1 <;> by_cases h2 : x2 = y2 <;> simp [h0, h1, h2]
attribute [local go_sem high] eqA28
theorem wpList_store_new {P : Program} {ops : Array Oper} {rest : List Oper} {o : Oper} {a : Act} {Q : Exit → Act → World → Prop} {w : World} (hgd : o.guard = none) (ty : TypeId) (x y : Operand) (ho : o.op = .store ty x y)
    (g : Nat) (hgs : w.heap.size = g) (c cells : Array Value) (hx : a.eval x = .pointer (some ⟨g, 0, none⟩)) (hy : a.eval y = .agg cells) (hi : (P.info? ty).map (·.size) = some cells.size) (hold : c.size = cells.size) (h1 : cells.all (·.oneCell') = true)
    (h : wpList P ops Q rest (a.put o.dst undef) (w.alloc (.cells cells ty))) : wpList P ops Q (o :: rest) a (w.alloc (.cells c ty)) := by
  subst hgs
  refine wpList_store_row hgd ty x y ho _ cells hx hy ty c (heap_alloc_last w _) hi hold h1 ?_
  rw [World.setRow_alloc_new]
  exact h

def LV (nl : List Nat) (j : Nat) : List Value := (nl.take j ++ List.replicate (8 - j) (0 : Nat)).map fun (n : Nat) => Value.int IntKind.i64 (n : Int)
theorem LV_step (n0 n1 n2 n3 n4 n5 n6 n7 : Nat) : ∀ j, j < 8 → (LV [n0, n1, n2, n3, n4, n5, n6, n7] j)[j]? = some (.int .i64 0) ∧ (LV [n0, n1, n2, n3, n4, n5, n6, n7] j).set j (.int .i64 (([n0, n1, n2, n3, n4, n5, n6, n7].getD j 0 : Nat) : Int)) = LV [n0, n1, n2, n3, n4, n5, n6, n7] (j + 1) := by
  intro j hj
  rcases below8 hj with rfl | rfl | rfl | rfl | rfl | rfl | rfl | rfl <;> exact ⟨rfl, rfl⟩
structure RS (bx br pb b5 j aj bj rj x0 x1 x2 : Nat) (L L2 : List Value) (w0 : World) (D : Nat → Bool) (u19 u20 u21 u22 u23 u24 u25 u26 u27 u28 u29 : Value) (w : World) : Prop where
  below : Below w0.heap.size w0 w
  h0 : D 0 = true → u19 = .int .i64 (j : Int)
  h1 : D 1 = true → u20 = .pointer (some ⟨bx, 0, none⟩)
  h2 : D 2 = true → u21 = .int .u64 (x0 : Int)
  h3 : D 3 = true → u22 = .int .i64 (aj : Int)
  h4 : D 4 = true → u23 = .slice (some ⟨pb, 0, none⟩) 8 8
  h5 : D 5 = true → u24 = .int .i64 (j : Int)
  h6 : D 6 = true → u25 = .pointer (some ⟨pb, j, none⟩)
  h7 : D 7 = true → u26 = .int .i64 (bj : Int)
  h8 : D 8 = true → u27 = .int .u64 (rj : Int)
  h9 : D 9 = true → u28 = .int .i64 (rj : Int)
  h10 : D 10 = true → u29 = .pointer (some ⟨b5, j, none⟩)
  x : HoldsV 28 w bx [.int .u64 (x0 : Int), .int .u64 (x1 : Int), .int .u64 (x2 : Int)]
  b : HoldsV 3 w pb [.int .i64 4, .int .i64 4, .int .i64 4, .int .i64 8, .int .i64 4, .int .i64 1, .int .i64 1, .int .i64 24]
  r : HoldsV 24 w br [.int .i64 0, .int .i64 0, .int .i64 0, .int .i64 0, .int .i64 0, .int .u32 0, .int .i64 0, .bool false, .bool false, .int .i64 0, .int .u32 0]
  v5 : HoldsV 93 w b5 (if D 11 = true then L2 else L)

set_option maxHeartbeats 8000000 in
set_option maxRecDepth 100000 in
theorem get_core (x0 x1 x2 : Nat) (hx0 : x0 < 2 ^ 64) (n0 : Nat) (n1 : Nat) (n2 : Nat) (n3 : Nat) (n4 : Nat) (n5 : Nat) (n6 : Nat) (n7 : Nat) (n8 : Nat) (n9 : Nat) (n10 : Nat) (h0 : getN x0 0 4 = n0) (h1 : getN x0 4 4 = n1) (h2 : getN x0 8 4 = n2) (h3 : getN x0 12 8 = n3) (h4 : getN x0 20 4 = n4) (h5 : getN x0 24 1 = n5) (h6 : getN x0 25 1 = n6) (h7 : getN x0 26 24 = n7) (h9 : x1 % 4294967296 = n9) (h8 : x1 / 4294967296 = n8) (h10 : x2 % 65536 = n10) (hn8 : n8 < 4294967296) (bS bT : Bool) (hS : ((n5 : Int) == 1) = bS) (hT : ((n6 : Int) == 1) = bT)
    (v0 v1 v2 : Int) (ok again : Bool) (hag : ((v0 == (x0 : Int)) && ((v1 == (x1 : Int)) && (v2 == (x2 : Int)))) = again) (hx1 : x1 < 2 ^ 64) (hx2 : x2 < 2 ^ 64)
    (PUT : ∀ w, Calls Tryd.prog 15 #[.agg #[.int .i64 (n0 : Int), .int .i64 (n1 : Int), .int .i64 (n2 : Int), .int .i64 (n3 : Int), .int .i64 (n7 : Int), .int .u32 (n9 : Int), .int .i64 (n4 : Int), .bool bS, .bool bT, .int .i64 (n10 : Int), .int .u32 (n8 : Int)]] w fun e w' => e = .returned (.tuple #[.agg #[.int .u64 v0, .int .u64 v1, .int .u64 v2], .bool ok]) ∧ Below w.heap.size w w') (W : World) :
    Calls Tryd.prog 19 #[.agg #[.int .u64 (x0 : Int), .int .u64 (x1 : Int), .int .u64 (x2 : Int)]] W fun r w' => r = .returned (.tuple (if (ok && again) = true then #[.agg #[.int .i64 (n0 : Int), .int .i64 (n1 : Int), .int .i64 (n2 : Int), .int .i64 (n3 : Int), .int .i64 (n7 : Int), .int .u32 (n9 : Int), .int .i64 (n4 : Int), .bool bS, .bool bT, .int .i64 (n10 : Int), .int .u32 (n8 : Int)], .bool true] else #[.agg #[.int .i64 0, .int .i64 0, .int .i64 0, .int .i64 0, .int .i64 0, .int .u32 0, .int .i64 0, .bool false, .bool false, .int .i64 0, .int .u32 0], .bool false])) ∧ Below W.heap.size W w' := by
  have kj0 : ∀ j, j < 8 → ∀ w, Calls Tryd.prog 56 #[.int .u64 (x0 : Int), .int .i64 (([0, 4, 8, 12, 20, 24, 25, 26, 50].getD j 0 : Nat) : Int), .int .i64 (([4, 4, 4, 8, 4, 1, 1, 24].getD j 0 : Nat) : Int)] w
      fun e w' => e = .returned (.int .u64 (([n0, n1, n2, n3, n4, n5, n6, n7].getD j 0 : Nat) : Int)) ∧ Below w.heap.size w w' := by
    intro j hj w
    rcases below8 hj with rfl | rfl | rfl | rfl | rfl | rfl | rfl | rfl
    · exact (cablewayref01_Get.calls 300 (x0 : Int) 0 4 (n0 : Int) w (by rw [← h0]; exact FrameF.refGet_eq 300 x0 0 4 (by decide) (by decide) hx0 (by decide))).mono (fun _ _ ⟨a, h⟩ => ⟨a, h.below⟩)
    · exact (cablewayref01_Get.calls 300 (x0 : Int) 4 4 (n1 : Int) w (by rw [← h1]; exact FrameF.refGet_eq 300 x0 4 4 (by decide) (by decide) hx0 (by decide))).mono (fun _ _ ⟨a, h⟩ => ⟨a, h.below⟩)
    · exact (cablewayref01_Get.calls 300 (x0 : Int) 8 4 (n2 : Int) w (by rw [← h2]; exact FrameF.refGet_eq 300 x0 8 4 (by decide) (by decide) hx0 (by decide))).mono (fun _ _ ⟨a, h⟩ => ⟨a, h.below⟩)
    · exact (cablewayref01_Get.calls 300 (x0 : Int) 12 8 (n3 : Int) w (by rw [← h3]; exact FrameF.refGet_eq 300 x0 12 8 (by decide) (by decide) hx0 (by decide))).mono (fun _ _ ⟨a, h⟩ => ⟨a, h.below⟩)
    · exact (cablewayref01_Get.calls 300 (x0 : Int) 20 4 (n4 : Int) w (by rw [← h4]; exact FrameF.refGet_eq 300 x0 20 4 (by decide) (by decide) hx0 (by decide))).mono (fun _ _ ⟨a, h⟩ => ⟨a, h.below⟩)
    · exact (cablewayref01_Get.calls 300 (x0 : Int) 24 1 (n5 : Int) w (by rw [← h5]; exact FrameF.refGet_eq 300 x0 24 1 (by decide) (by decide) hx0 (by decide))).mono (fun _ _ ⟨a, h⟩ => ⟨a, h.below⟩)
    · exact (cablewayref01_Get.calls 300 (x0 : Int) 25 1 (n6 : Int) w (by rw [← h6]; exact FrameF.refGet_eq 300 x0 25 1 (by decide) (by decide) hx0 (by decide))).mono (fun _ _ ⟨a, h⟩ => ⟨a, h.below⟩)
    · exact (cablewayref01_Get.calls 300 (x0 : Int) 26 24 (n7 : Int) w (by rw [← h7]; exact FrameF.refGet_eq 300 x0 26 24 (by decide) (by decide) hx0 (by decide))).mono (fun _ _ ⟨a, h⟩ => ⟨a, h.below⟩)
  have nb0 : ∀ j, j < 8 → [n0, n1, n2, n3, n4, n5, n6, n7].getD j 0 < 16777216 := by
    intro j hj
    have hm : ∀ a n m : Nat, getN x0 a n = m → n ≤ 24 → m < 16777216 := fun a n m h hn => by rw [← h]; exact Nat.lt_of_lt_of_le (Nat.mod_lt _ (Nat.two_pow_pos n)) (by have := Nat.pow_le_pow_right (show 0 < 2 by decide) hn; omega)
    rcases below8 hj with rfl | rfl | rfl | rfl | rfl | rfl | rfl | rfl
    · exact hm _ _ _ h0 (by decide)
    · exact hm _ _ _ h1 (by decide)
    · exact hm _ _ _ h2 (by decide)
    · exact hm _ _ _ h3 (by decide)
    · exact hm _ _ _ h4 (by decide)
    · exact hm _ _ _ h5 (by decide)
    · exact hm _ _ _ h6 (by decide)
    · exact hm _ _ _ h7 (by decide)
  have KJ := Aside0.mk kj0
  have NB := Aside0.mk nb0
  have KP := Aside0.mk PUT
  have HLV := Aside0.mk (LV_step n0 n1 n2 n3 n4 n5 n6 n7)
  have HAG := Aside0.mk hag
  have w9 : (x1 : Int) % 4294967296 = (n9 : Int) := by omega
  have t9 : IntKind.u64.wrap ((x1 : Int) / 4294967296) = (n8 : Int) := by rw [wrap_u64_in _ (by omega) (by omega)]; omega
  have w8 : (n8 : Int) % 4294967296 = (n8 : Int) := by omega
  have t8 : True := trivial
  have w10 : (x2 : Int) % 65536 = (n10 : Int) := by omega
  have t10 : True := trivial
  have HF := Aside0.mk (And.intro t9 (And.intro w9 (And.intro t8 (And.intro w8 (And.intro t10 (And.intro w10 (And.intro hS hT)))))))
  clear kj0 nb0 PUT hag h0 h1 h2 h3 h4 h5 h6 h7 h8 h9 h10 hS hT hx0 hx1 hx2 hn8 w8 w9 w10 t8 t9 t10
  have hu24 := Tryd.underlying24
  have hu28 := Tryd.underlying28
  go_enter Tryd.func19, Tryd.ntmps19
  go_upto_region 2 with fail
  obtain ⟨bx, hbx⟩ : ∃ b, W.heap.size = b := ⟨_, rfl⟩
  obtain ⟨br, hbr⟩ : ∃ b, bx + 1 = b := ⟨_, rfl⟩
  obtain ⟨pb, hpb⟩ : ∃ b, br + 1 = b := ⟨_, rfl⟩
  rw [hbx, hbr, hpb]
  obtain ⟨w00, hw0⟩ : ∃ w0, (((W.alloc (.cells #[.int .u64 (x0 : Int), .int .u64 (x1 : Int), .int .u64 (x2 : Int)] 28)).alloc (.cells #[.int .i64 0, .int .i64 0, .int .i64 0, .int .i64 0, .int .i64 0, .int .u32 0, .int .i64 0, .bool false, .bool false, .int .i64 0, .int .u32 0] 24)).alloc (.cells #[.int .i64 4, .int .i64 4, .int .i64 4, .int .i64 8, .int .i64 4, .int .i64 1, .int .i64 1, .int .i64 24] 3)) = w0 := ⟨_, rfl⟩
  have hs0 : w00.heap.size = pb + 1 := by rw [← hw0, ← hpb, ← hbr, ← hbx]; simp only [World.alloc, Array.size_push]
  have HX0 := Aside0.mk (show HoldsV 28 w00 bx [.int .u64 (x0 : Int), .int .u64 (x1 : Int), .int .u64 (x2 : Int)] by rw [← hw0, ← hbx]; exact heap_old (heap_old (heap_new _ _)))
  have HR0 := Aside0.mk (show HoldsV 24 w00 br [.int .i64 0, .int .i64 0, .int .i64 0, .int .i64 0, .int .i64 0, .int .u32 0, .int .i64 0, .bool false, .bool false, .int .i64 0, .int .u32 0] by rw [← hw0, ← hbr, ← hbx]; exact heap_old (heap_new' (w := W.alloc _) _ (Array.size_push ..)))
  have HI0 := Aside0.mk (show HoldsV 3 w00 pb [.int .i64 4, .int .i64 4, .int .i64 4, .int .i64 8, .int .i64 4, .int .i64 1, .int .i64 1, .int .i64 24] by rw [← hw0, ← hpb, ← hbr, ← hbx]; exact heap_new' (w := (W.alloc _).alloc _) _ (by simp only [World.alloc, Array.size_push]))
  have HB0 := Aside0.mk (show Below W.heap.size W w00 by rw [← hw0]; exact (((Below.refl _ _).alloc (Nat.le_refl _) _).alloc (by simp only [World.alloc, Array.size_push]; omega) _).alloc (by simp only [World.alloc, Array.size_push]; omega) _)
  obtain ⟨b5, hb5⟩ : ∃ b, w00.heap.size = b := ⟨_, rfl⟩
  have HN := Aside0.mk (show W.heap.size ≤ b5 ∧ bx ≠ b5 ∧ pb ≠ b5 ∧ br ≠ b5 ∧ W.heap.size ≤ br by omega)
  rw [hw0]
  clear hw0 hbx hbr hpb hs0
  go_upto_region 3 with (first | ((with_reducible refine gate_store (t := 93) (p := 5) (v := .tmp 12) rfl ?_); refine wpList_store_new rfl 93 (.tmp 5) (.tmp 12) rfl _ rfl _ ([.int .i64 0, .int .i64 0, .int .i64 0, .int .i64 0, .int .i64 0, .int .i64 0, .int .i64 0, .int .i64 0] : List Value).toArray rfl rfl (by kernel_rfl) rfl (by kernel_rfl) ?_))
  go_cut [7] from 11 to 12 (fun v7 wx => v7 = .int .i64 0 ∧ HoldsV 28 wx bx [.int .u64 (x0 : Int), .int .u64 (x1 : Int), .int .u64 (x2 : Int)] ∧ HoldsV 24 wx br [.int .i64 0, .int .i64 0, .int .i64 0, .int .i64 0, .int .i64 0, .int .u32 0, .int .i64 0, .bool false, .bool false, .int .i64 0, .int .u32 0] ∧ HoldsV 3 wx pb [.int .i64 4, .int .i64 4, .int .i64 4, .int .i64 8, .int .i64 4, .int .i64 1, .int .i64 1, .int .i64 24] ∧ HoldsV 93 wx b5 (LV [n0, n1, n2, n3, n4, n5, n6, n7] 0) ∧ Below W.heap.size W wx)
  case first =>
    go_wp2_with fail
    go_meet
    exact ⟨rfl, heap_old HX0.out, heap_old HR0.out, heap_old HI0.out, by rw [← hb5]; exact heap_new _ _, HB0.out.alloc HB0.out.size _⟩
  case rest =>
    obtain ⟨rfl, hx, hr, hi, h5, hbw⟩ := hcut
    have HH := Aside0.mk (And.intro hx (And.intro hr (And.intro hi (And.intro h5 hbw))))
    clear hx hr hi h5 hbw HX0 HR0 HI0 HB0 hb5
    go_wp2_with fail
    go_loopg [6, 7] 8 (fun gg at_ i wx => ∃ (j : Nat), gg + j = 8 ∧ i = .int .i64 (j : Int) ∧ at_ = .int .i64 (([0, 4, 8, 12, 20, 24, 25, 26, 50].getD j 0 : Nat) : Int) ∧ HoldsV 28 wx bx [.int .u64 (x0 : Int), .int .u64 (x1 : Int), .int .u64 (x2 : Int)] ∧ HoldsV 24 wx br [.int .i64 0, .int .i64 0, .int .i64 0, .int .i64 0, .int .i64 0, .int .u32 0, .int .i64 0, .bool false, .bool false, .int .i64 0, .int .u32 0] ∧ HoldsV 3 wx pb [.int .i64 4, .int .i64 4, .int .i64 4, .int .i64 8, .int .i64 4, .int .i64 1, .int .i64 1, .int .i64 24] ∧ HoldsV 93 wx b5 (LV [n0, n1, n2, n3, n4, n5, n6, n7] j) ∧ Below W.heap.size W wx)
    case atStart => exact ⟨0, rfl, rfl, rfl, HH.out.1, HH.out.2.1, HH.out.2.2.1, HH.out.2.2.2.1, HH.out.2.2.2.2⟩
    case round =>
      clear HH
      obtain ⟨j, hj, rfl, rfl, hx, hr, hi, h5, hbw⟩ := hrel
      have HJ := Aside0.mk hj
      clear hj
      by_cases hlt : j < 8
      · have d1 : decide ((j : Int) < 8) = true := decide_eq_true (by omega)
        have H8 := Aside0.mk hlt
        have st := (show ∀ j, j < 8 → [0, 4, 8, 12, 20, 24, 25, 26, 50].getD j 0 + [4, 4, 4, 8, 4, 1, 1, 24].getD j 0 = [0, 4, 8, 12, 20, 24, 25, 26, 50].getD (j + 1) 0 ∧ [0, 4, 8, 12, 20, 24, 25, 26, 50].getD j 0 ≤ 50 ∧ [4, 4, 4, 8, 4, 1, 1, 24].getD j 0 ≤ 24 by decide) j hlt
        have kp := KJ.out j hlt
        have nb := NB.out j hlt
        have ls := HLV.out j hlt
        have hbj : ([.int .i64 4, .int .i64 4, .int .i64 4, .int .i64 8, .int .i64 4, .int .i64 1, .int .i64 1, .int .i64 24] : List Value)[j]? = some (.int .i64 (([4, 4, 4, 8, 4, 1, 1, 24].getD j 0 : Nat) : Int)) := by
          rcases below8 hlt with rfl | rfl | rfl | rfl | rfl | rfl | rfl | rfl <;> rfl
        obtain ⟨aj, haj⟩ : ∃ x, [0, 4, 8, 12, 20, 24, 25, 26, 50].getD j 0 = x := ⟨_, rfl⟩
        obtain ⟨aj1, haj1⟩ : ∃ x, [0, 4, 8, 12, 20, 24, 25, 26, 50].getD (j + 1) 0 = x := ⟨_, rfl⟩
        obtain ⟨bj, hbjv⟩ : ∃ x, [4, 4, 4, 8, 4, 1, 1, 24].getD j 0 = x := ⟨_, rfl⟩
        obtain ⟨rj, hrj⟩ : ∃ x, [n0, n1, n2, n3, n4, n5, n6, n7].getD j 0 = x := ⟨_, rfl⟩
        obtain ⟨L, hL⟩ : ∃ x, LV [n0, n1, n2, n3, n4, n5, n6, n7] j = x := ⟨_, rfl⟩
        obtain ⟨L2, hL2⟩ : ∃ x, LV [n0, n1, n2, n3, n4, n5, n6, n7] (j + 1) = x := ⟨_, rfl⟩
        rw [haj]
        rw [haj, hbjv, hrj] at kp
        rw [haj, haj1, hbjv] at st
        rw [hbjv] at hbj
        rw [hrj] at nb
        rw [hL, hrj, hL2] at ls
        rw [hL] at h5
        have KR := Aside0.mk kp
        have HLS := Aside0.mk ls
        have HBJ := Aside0.mk hbj
        have HW := Aside0.mk (show IntKind.i64.wrap (rj : Int) = (rj : Int) by rw [IntKind.wrap_i64]; omega)
        have HE := Aside0.mk (And.intro haj1 hL2)
        have hbb := hi
        have hv5 := h5
        clear kp nb ls hbj haj haj1 hbjv hrj hL hL2
        go_upto_region 6 with fail
        go_cut [] from 13 to 35 (fun wx => HoldsV 28 wx bx [.int .u64 (x0 : Int), .int .u64 (x1 : Int), .int .u64 (x2 : Int)] ∧ HoldsV 24 wx br [.int .i64 0, .int .i64 0, .int .i64 0, .int .i64 0, .int .i64 0, .int .u32 0, .int .i64 0, .bool false, .bool false, .int .i64 0, .int .u32 0] ∧ HoldsV 3 wx pb [.int .i64 4, .int .i64 4, .int .i64 4, .int .i64 8, .int .i64 4, .int .i64 1, .int .i64 1, .int .i64 24] ∧ HoldsV 93 wx b5 L2 ∧ Below W.heap.size W wx)
        case first =>
          refine RegInv.wp_region_steps (I := fun D a w => ∃ u19 u20 u21 u22 u23 u24 u25 u26 u27 u28 u29, a = ⟨(.agg #[.int .u64 (x0 : Int), .int .u64 (x1 : Int), .int .u64 (x2 : Int)] :: .pointer (some ⟨bx, 0, none⟩) :: .pointer (some ⟨br, 0, none⟩) :: .bool false :: .slice (some ⟨pb, 0, none⟩) 8 8 :: .pointer (some ⟨b5, 0, none⟩) :: .int .i64 (aj : Int) :: .int .i64 (j : Int) :: undef :: undef :: undef :: u11 :: u12 :: .int .i64 (j : Int) :: .slice (some ⟨pb, 0, none⟩) 8 8 :: .int .i64 8 :: .bool true :: u17 :: u18 :: u19 :: u20 :: u21 :: u22 :: u23 :: u24 :: u25 :: u26 :: u27 :: u28 :: u29 :: u30 :: u31 :: u32 :: u33 :: u34 :: u35 :: undef :: undef :: undef :: undef :: undef :: undef :: undef :: undef :: undef :: undef :: undef :: undef :: undef :: undef :: undef :: undef :: undef :: undef :: undef :: undef :: undef :: undef :: undef :: undef :: undef :: undef :: undef :: undef :: undef :: undef :: undef :: undef :: undef :: undef :: undef :: undef :: undef :: undef :: undef :: undef :: undef :: undef :: undef :: undef :: undef :: []).toArray, []⟩ ∧ RS bx br pb b5 j aj bj rj x0 x1 x2 L L2 W D u19 u20 u21 u22 u23 u24 u25 u26 u27 u28 u29 w) (by kernel_rfl) (by kernel_rfl) ?_ ?_ ?_
          · exact ⟨_, _, _, _, _, _, _, _, _, _, _, rfl, ⟨hbw.drew, fun h => (by cases h), fun h => (by cases h), fun h => (by cases h), fun h => (by cases h), fun h => (by cases h), fun h => (by cases h), fun h => (by cases h), fun h => (by cases h), fun h => (by cases h), fun h => (by cases h), fun h => (by cases h), hx, hbb, hr, hv5⟩⟩
          · rintro D a w ⟨u19, u20, u21, u22, u23, u24, u25, u26, u27, u28, u29, rfl, hR⟩ hall
            obtain rfl := hR.h0 (hall 0 (by decide))
            obtain rfl := hR.h1 (hall 1 (by decide))
            obtain rfl := hR.h2 (hall 2 (by decide))
            obtain rfl := hR.h3 (hall 3 (by decide))
            obtain rfl := hR.h4 (hall 4 (by decide))
            obtain rfl := hR.h5 (hall 5 (by decide))
            obtain rfl := hR.h6 (hall 6 (by decide))
            obtain rfl := hR.h7 (hall 7 (by decide))
            obtain rfl := hR.h8 (hall 8 (by decide))
            obtain rfl := hR.h9 (hall 9 (by decide))
            obtain rfl := hR.h10 (hall 10 (by decide))
            have qv := hR.v5
            rw [if_pos (hall 11 (by decide))] at qv
            have qx := hR.x
            have qb := hR.b
            have qr := hR.r
            have hb := hR.below
            go_wp2_with fail
            go_meet
            exact ⟨qx, qr, qb, qv, hb⟩
          · refine RegInv.Steps.cons (fun D a w hI hD hdep K hK => ?_) ?_
            · obtain ⟨u19, u20, u21, u22, u23, u24, u25, u26, u27, u28, u29, rfl, hR⟩ := hI
              rw [if_pos (by rfl)]
              go_simp
              exact hK.out _ _ ⟨_, _, _, _, _, _, _, _, _, _, _, rfl, ⟨hR.below, fun _ => rfl, hR.h1, hR.h2, hR.h3, hR.h4, hR.h5, hR.h6, hR.h7, hR.h8, hR.h9, hR.h10, hR.x, hR.b, hR.r, hR.v5⟩⟩
            refine RegInv.Steps.cons (fun D a w hI hD hdep K hK => ?_) ?_
            · obtain ⟨u19, u20, u21, u22, u23, u24, u25, u26, u27, u28, u29, rfl, hR⟩ := hI
              rw [if_pos (by rfl)]
              go_simp
              exact hK.out _ _ ⟨_, _, _, _, _, _, _, _, _, _, _, rfl, ⟨hR.below, hR.h0, fun _ => rfl, hR.h2, hR.h3, hR.h4, hR.h5, hR.h6, hR.h7, hR.h8, hR.h9, hR.h10, hR.x, hR.b, hR.r, hR.v5⟩⟩
            refine RegInv.Steps.cons (fun D a w hI hD hdep K hK => ?_) ?_
            · obtain ⟨u19, u20, u21, u22, u23, u24, u25, u26, u27, u28, u29, rfl, hR⟩ := hI
              have d1 : D 1 = true := hdep ⟨1, .data⟩ (by simp) rfl
              obtain rfl := hR.h1 d1
              have cx := hR.x.cell 0
              simp only [List.getElem?_cons_zero, List.getElem?_cons_succ] at cx
              rw [if_pos (by rfl)]
              go_simp
              exact hK.out _ _ ⟨_, _, _, _, _, _, _, _, _, _, _, rfl, ⟨hR.below, hR.h0, hR.h1, fun _ => rfl, hR.h3, hR.h4, hR.h5, hR.h6, hR.h7, hR.h8, hR.h9, hR.h10, hR.x, hR.b, hR.r, hR.v5⟩⟩
            refine RegInv.Steps.cons (fun D a w hI hD hdep K hK => ?_) ?_
            · obtain ⟨u19, u20, u21, u22, u23, u24, u25, u26, u27, u28, u29, rfl, hR⟩ := hI
              rw [if_pos (by rfl)]
              go_simp
              exact hK.out _ _ ⟨_, _, _, _, _, _, _, _, _, _, _, rfl, ⟨hR.below, hR.h0, hR.h1, hR.h2, fun _ => rfl, hR.h4, hR.h5, hR.h6, hR.h7, hR.h8, hR.h9, hR.h10, hR.x, hR.b, hR.r, hR.v5⟩⟩
            refine RegInv.Steps.cons (fun D a w hI hD hdep K hK => ?_) ?_
            · obtain ⟨u19, u20, u21, u22, u23, u24, u25, u26, u27, u28, u29, rfl, hR⟩ := hI
              rw [if_pos (by rfl)]
              go_simp
              exact hK.out _ _ ⟨_, _, _, _, _, _, _, _, _, _, _, rfl, ⟨hR.below, hR.h0, hR.h1, hR.h2, hR.h3, fun _ => rfl, hR.h5, hR.h6, hR.h7, hR.h8, hR.h9, hR.h10, hR.x, hR.b, hR.r, hR.v5⟩⟩
            refine RegInv.Steps.cons (fun D a w hI hD hdep K hK => ?_) ?_
            · obtain ⟨u19, u20, u21, u22, u23, u24, u25, u26, u27, u28, u29, rfl, hR⟩ := hI
              rw [if_pos (by rfl)]
              go_simp
              exact hK.out _ _ ⟨_, _, _, _, _, _, _, _, _, _, _, rfl, ⟨hR.below, hR.h0, hR.h1, hR.h2, hR.h3, hR.h4, fun _ => rfl, hR.h6, hR.h7, hR.h8, hR.h9, hR.h10, hR.x, hR.b, hR.r, hR.v5⟩⟩
            refine RegInv.Steps.cons (fun D a w hI hD hdep K hK => ?_) ?_
            · obtain ⟨u19, u20, u21, u22, u23, u24, u25, u26, u27, u28, u29, rfl, hR⟩ := hI
              have d4 : D 4 = true := hdep ⟨4, .data⟩ (by simp) rfl
              obtain rfl := hR.h4 d4
              have d5 : D 5 = true := hdep ⟨5, .data⟩ (by simp) rfl
              obtain rfl := hR.h5 d5
              have d8 : (j : Int) < 8 := by have := H8.out; omega
              rw [if_pos (by rfl)]
              go_simp
              exact hK.out _ _ ⟨_, _, _, _, _, _, _, _, _, _, _, rfl, ⟨hR.below, hR.h0, hR.h1, hR.h2, hR.h3, hR.h4, hR.h5, fun _ => rfl, hR.h7, hR.h8, hR.h9, hR.h10, hR.x, hR.b, hR.r, hR.v5⟩⟩
            refine RegInv.Steps.cons (fun D a w hI hD hdep K hK => ?_) ?_
            · obtain ⟨u19, u20, u21, u22, u23, u24, u25, u26, u27, u28, u29, rfl, hR⟩ := hI
              have d6 : D 6 = true := hdep ⟨6, .data⟩ (by simp) rfl
              obtain rfl := hR.h6 d6
              have cx := hR.b.cell j
              rw [HBJ.out] at cx
              rw [if_pos (by rfl)]
              go_simp
              exact hK.out _ _ ⟨_, _, _, _, _, _, _, _, _, _, _, rfl, ⟨hR.below, hR.h0, hR.h1, hR.h2, hR.h3, hR.h4, hR.h5, hR.h6, fun _ => rfl, hR.h8, hR.h9, hR.h10, hR.x, hR.b, hR.r, hR.v5⟩⟩
            refine RegInv.Steps.cons (fun D a w hI hD hdep K hK => ?_) ?_
            · obtain ⟨u19, u20, u21, u22, u23, u24, u25, u26, u27, u28, u29, rfl, hR⟩ := hI
              have d2 : D 2 = true := hdep ⟨2, .data⟩ (by simp) rfl
              obtain rfl := hR.h2 d2
              have d3 : D 3 = true := hdep ⟨3, .data⟩ (by simp) rfl
              obtain rfl := hR.h3 d3
              have d7 : D 7 = true := hdep ⟨7, .data⟩ (by simp) rfl
              obtain rfl := hR.h7 d7
              rw [if_pos (by rfl)]
              go_simp
              with_reducible refine ((KR.out _)).mono ?_
              rintro e w9 ⟨rfl, hb9⟩
              exact hK.out _ _ ⟨_, _, _, _, _, _, _, _, _, _, _, rfl, ⟨hR.below.trans (hb9.mono hR.below.size), hR.h0, hR.h1, hR.h2, hR.h3, hR.h4, hR.h5, hR.h6, hR.h7, fun _ => rfl, hR.h9, hR.h10, hR.x.below' hb9, hR.b.below' hb9, hR.r.below' hb9, hR.v5.below' hb9⟩⟩
            refine RegInv.Steps.cons (fun D a w hI hD hdep K hK => ?_) ?_
            · obtain ⟨u19, u20, u21, u22, u23, u24, u25, u26, u27, u28, u29, rfl, hR⟩ := hI
              have d8 : D 8 = true := hdep ⟨8, .data⟩ (by simp) rfl
              obtain rfl := hR.h8 d8
              have hb := HW.out
              rw [if_pos (by rfl)]
              go_simp
              exact hK.out _ _ ⟨_, _, _, _, _, _, _, _, _, _, _, rfl, ⟨hR.below, hR.h0, hR.h1, hR.h2, hR.h3, hR.h4, hR.h5, hR.h6, hR.h7, hR.h8, fun _ => rfl, hR.h10, hR.x, hR.b, hR.r, hR.v5⟩⟩
            refine RegInv.Steps.cons (fun D a w hI hD hdep K hK => ?_) ?_
            · obtain ⟨u19, u20, u21, u22, u23, u24, u25, u26, u27, u28, u29, rfl, hR⟩ := hI
              have d0 : D 0 = true := hdep ⟨0, .data⟩ (by simp) rfl
              obtain rfl := hR.h0 d0
              have d8 : (j : Int) < 8 := by have := H8.out; omega
              rw [if_pos (by rfl)]
              go_simp
              exact hK.out _ _ ⟨_, _, _, _, _, _, _, _, _, _, _, rfl, ⟨hR.below, hR.h0, hR.h1, hR.h2, hR.h3, hR.h4, hR.h5, hR.h6, hR.h7, hR.h8, hR.h9, fun _ => rfl, hR.x, hR.b, hR.r, hR.v5⟩⟩
            refine RegInv.Steps.cons (fun D a w hI hD hdep K hK => ?_) ?_
            · obtain ⟨u19, u20, u21, u22, u23, u24, u25, u26, u27, u28, u29, rfl, hR⟩ := hI
              have d10 : D 10 = true := hdep ⟨10, .data⟩ (by simp) rfl
              obtain rfl := hR.h10 d10
              have d9 : D 9 = true := hdep ⟨9, .data⟩ (by simp) rfl
              obtain rfl := hR.h9 d9
              have hv := hR.v5
              rw [hD, if_neg (by decide)] at hv
              have cc := hv.cell j
              rw [HLS.out.1] at cc
              have fc := hv.free j
              rw [if_pos (by rfl)]
              go_simp
              exact hK.out _ _ ⟨_, _, _, _, _, _, _, _, _, _, _, rfl, ⟨hR.below.setCell HN.out.1 _, hR.h0, hR.h1, hR.h2, hR.h3, hR.h4, hR.h5, hR.h6, hR.h7, hR.h8, hR.h9, hR.h10, hR.x.other _ HN.out.2.1, hR.b.other _ HN.out.2.2.1, hR.r.other _ HN.out.2.2.2.1, by rw [RegInv.upd_at, if_pos rfl, ← HLS.out.2]; exact hv.set j (.int .i64 (rj : Int))⟩⟩
            exact RegInv.Steps.nil
        case rest =>
          clear hx hr hi h5 hbw hbb hv5
          obtain ⟨hx, hr, hi, h5, hbw⟩ := hcut
          have cb := hi.cell j
          rw [HBJ.out] at cb
          go_wp2_with fail
          go_roundg (8 - (j + 1))
          case measure => have := HJ.out; omega
          case rel => exact ⟨j + 1, by have := HJ.out; omega, by go_num, by rw [HE.out.1, ← st.1]; go_num, hx, hr, hi, by rw [HE.out.2]; exact h5, hbw⟩
      · have d1 : decide ((j : Int) < 8) = false := decide_eq_false (by omega)
        obtain rfl : j = 8 := by have := HJ.out; omega
        have h6 : HoldsV 93 wr b5 [.int .i64 (n0 : Int), .int .i64 (n1 : Int), .int .i64 (n2 : Int), .int .i64 (n3 : Int), .int .i64 (n4 : Int), .int .i64 (n5 : Int), .int .i64 (n6 : Int), .int .i64 (n7 : Int)] := h5
        have cd0 := h6.cell 0; have cd1 := h6.cell 1; have cd2 := h6.cell 2; have cd3 := h6.cell 3; have cd4 := h6.cell 4; have cd5 := h6.cell 5; have cd6 := h6.cell 6; have cd7 := h6.cell 7; simp only [List.getElem?_cons_zero, List.getElem?_cons_succ] at cd0 cd1 cd2 cd3 cd4 cd5 cd6 cd7
        have cx0 := hx.cell 0; have cx1 := hx.cell 1; have cx2 := hx.cell 2; simp only [List.getElem?_cons_zero, List.getElem?_cons_succ] at cx0 cx1 cx2
        obtain ⟨t9, w9, t8, w8, t10, w10, hS, hT⟩ := HF.out
        have HX := Aside0.mk hx
        have HR := Aside0.mk hr
        have BW := Aside0.mk hbw
        clear KJ NB HLV h5 h6 hx hr hi hbw HJ hlt
        go_upto_region 9 with (first | ((with_reducible refine gate_store (t := 24) (p := 8) (v := .tmp 66) rfl ?_); refine wpList_store_new rfl 24 (.tmp 8) (.tmp 66) rfl _ rfl _ ([.int .i64 (n0 : Int), .int .i64 (n1 : Int), .int .i64 (n2 : Int), .int .i64 (n3 : Int), .int .i64 (n7 : Int), .int .u32 (n9 : Int), .int .i64 (n4 : Int), .bool bS, .bool bT, .int .i64 (n10 : Int), .int .u32 (n8 : Int)] : List Value).toArray rfl rfl (by kernel_rfl) rfl (by kernel_rfl) ?_))
        have H8 := Aside0.mk (show HoldsV 24 (wr.alloc (.cells ([.int .i64 (n0 : Int), .int .i64 (n1 : Int), .int .i64 (n2 : Int), .int .i64 (n3 : Int), .int .i64 (n7 : Int), .int .u32 (n9 : Int), .int .i64 (n4 : Int), .bool bS, .bool bT, .int .i64 (n10 : Int), .int .u32 (n8 : Int)] : List Value).toArray 24)) wr.heap.size [.int .i64 (n0 : Int), .int .i64 (n1 : Int), .int .i64 (n2 : Int), .int .i64 (n3 : Int), .int .i64 (n7 : Int), .int .u32 (n9 : Int), .int .i64 (n4 : Int), .bool bS, .bool bT, .int .i64 (n10 : Int), .int .u32 (n8 : Int)] from heap_new _ _)
        have H8x := Aside0.mk (show HoldsV 28 (wr.alloc (.cells ([.int .i64 (n0 : Int), .int .i64 (n1 : Int), .int .i64 (n2 : Int), .int .i64 (n3 : Int), .int .i64 (n7 : Int), .int .u32 (n9 : Int), .int .i64 (n4 : Int), .bool bS, .bool bT, .int .i64 (n10 : Int), .int .u32 (n8 : Int)] : List Value).toArray 24)) bx [.int .u64 (x0 : Int), .int .u64 (x1 : Int), .int .u64 (x2 : Int)] from heap_old HX.out)
        have H8r := Aside0.mk (show HoldsV 24 (wr.alloc (.cells ([.int .i64 (n0 : Int), .int .i64 (n1 : Int), .int .i64 (n2 : Int), .int .i64 (n3 : Int), .int .i64 (n7 : Int), .int .u32 (n9 : Int), .int .i64 (n4 : Int), .bool bS, .bool bT, .int .i64 (n10 : Int), .int .u32 (n8 : Int)] : List Value).toArray 24)) br [.int .i64 0, .int .i64 0, .int .i64 0, .int .i64 0, .int .i64 0, .int .u32 0, .int .i64 0, .bool false, .bool false, .int .i64 0, .int .u32 0] from heap_old HR.out)
        have B8 := Aside0.mk (BW.out.alloc BW.out.size (.cells ([.int .i64 (n0 : Int), .int .i64 (n1 : Int), .int .i64 (n2 : Int), .int .i64 (n3 : Int), .int .i64 (n7 : Int), .int .u32 (n9 : Int), .int .i64 (n4 : Int), .bool bS, .bool bT, .int .i64 (n10 : Int), .int .u32 (n8 : Int)] : List Value).toArray 24))
        obtain ⟨b8, hb8⟩ : ∃ b8, wr.heap.size = b8 := ⟨_, rfl⟩
        obtain ⟨w8', hw8⟩ : ∃ x, wr.alloc (.cells ([.int .i64 (n0 : Int), .int .i64 (n1 : Int), .int .i64 (n2 : Int), .int .i64 (n3 : Int), .int .i64 (n7 : Int), .int .u32 (n9 : Int), .int .i64 (n4 : Int), .bool bS, .bool bT, .int .i64 (n10 : Int), .int .u32 (n8 : Int)] : List Value).toArray 24) = x := ⟨_, rfl⟩
        rw [hw8, hb8] at H8
        rw [hw8] at H8x H8r B8 ⊢
        rw [hb8]
        clear hw8 hb8 HX HR BW t9 w9 t8 w8 t10 w10 hS hT cd0 cd1 cd2 cd3 cd4 cd5 cd6 cd7 cx0 cx1 cx2
        have ce0 := H8.out.cell 0; have ce1 := H8.out.cell 1; have ce2 := H8.out.cell 2; have ce3 := H8.out.cell 3; have ce4 := H8.out.cell 4; have ce5 := H8.out.cell 5; have ce6 := H8.out.cell 6; have ce7 := H8.out.cell 7; have ce8 := H8.out.cell 8; have ce9 := H8.out.cell 9; have ce10 := H8.out.cell 10; simp only [List.getElem?_cons_zero, List.getElem?_cons_succ] at ce0 ce1 ce2 ce3 ce4 ce5 ce6 ce7 ce8 ce9 ce10
        go_upto_if 67 with fail
        refine (KP.out _).mono ?_
        rintro e w9 ⟨rfl, hb⟩
        have B9 := Aside0.mk (B8.out.trans (hb.mono B8.out.size))
        have H9 := Aside0.mk (H8.out.below' hb)
        have H9x := Aside0.mk (H8x.out.below' hb)
        have H9r := Aside0.mk (H8r.out.below' hb)
        clear hb B8 H8 H8x H8r ce0 ce1 ce2 ce3 ce4 ce5 ce6 ce7 ce8 ce9 ce10
        go_upto_region 10 with (first | ((with_reducible refine gate_store (t := 28) (p := 9) (v := .tmp 70) rfl ?_); refine wpList_store_new rfl 28 (.tmp 9) (.tmp 70) rfl _ rfl _ ([.int .u64 v0, .int .u64 v1, .int .u64 v2] : List Value).toArray rfl rfl (by kernel_rfl) rfl (by kernel_rfl) ?_))
        obtain ⟨b9, hb9⟩ : ∃ b9, w9.heap.size = b9 := ⟨_, rfl⟩
        have HA9 := Aside0.mk (show HoldsV 28 (w9.alloc (.cells ([.int .u64 v0, .int .u64 v1, .int .u64 v2] : List Value).toArray 28)) b9 [.int .u64 v0, .int .u64 v1, .int .u64 v2] by rw [← hb9]; exact heap_new _ _)
        have HA8 := Aside0.mk (show HoldsV 24 (w9.alloc (.cells ([.int .u64 v0, .int .u64 v1, .int .u64 v2] : List Value).toArray 28)) b8 [.int .i64 (n0 : Int), .int .i64 (n1 : Int), .int .i64 (n2 : Int), .int .i64 (n3 : Int), .int .i64 (n7 : Int), .int .u32 (n9 : Int), .int .i64 (n4 : Int), .bool bS, .bool bT, .int .i64 (n10 : Int), .int .u32 (n8 : Int)] from heap_old H9.out)
        have HAx := Aside0.mk (show HoldsV 28 (w9.alloc (.cells ([.int .u64 v0, .int .u64 v1, .int .u64 v2] : List Value).toArray 28)) bx [.int .u64 (x0 : Int), .int .u64 (x1 : Int), .int .u64 (x2 : Int)] from heap_old H9x.out)
        have HAr := Aside0.mk (show HoldsV 24 (w9.alloc (.cells ([.int .u64 v0, .int .u64 v1, .int .u64 v2] : List Value).toArray 28)) br [.int .i64 0, .int .i64 0, .int .i64 0, .int .i64 0, .int .i64 0, .int .u32 0, .int .i64 0, .bool false, .bool false, .int .i64 0, .int .u32 0] from heap_old H9r.out)
        have BA := Aside0.mk (B9.out.alloc B9.out.size (.cells ([.int .u64 v0, .int .u64 v1, .int .u64 v2] : List Value).toArray 28))
        obtain ⟨wA, hwA⟩ : ∃ x, w9.alloc (.cells ([.int .u64 v0, .int .u64 v1, .int .u64 v2] : List Value).toArray 28) = x := ⟨_, rfl⟩
        rw [hwA] at HA9 HA8 HAx HAr BA ⊢
        rw [hb9]
        clear hwA hb9 B9 H9 H9x H9r
        cases ok with
        | false =>
          go_wp2_with (first | ((with_reducible refine gate_store (t := 24) (p := 2) (v := .tmp 79) rfl ?_); refine wpList_store_row rfl 24 (.tmp 2) (.tmp 79) rfl br ([.int .i64 0, .int .i64 0, .int .i64 0, .int .i64 0, .int .i64 0, .int .u32 0, .int .i64 0, .bool false, .bool false, .int .i64 0, .int .u32 0] : List Value).toArray rfl rfl 24 _ HAr.out (by kernel_rfl) rfl (by kernel_rfl) ?_))
          refine bodyPost_ret (results_ct rfl _ _ br 24 ([.int .i64 0, .int .i64 0, .int .i64 0, .int .i64 0, .int .i64 0, .int .u32 0, .int .i64 0, .bool false, .bool false, .int .i64 0, .int .u32 0] : List Value).toArray (0, 0) _ rfl (setRow_heap _ _ _ _ 24 (0, 0) HAr.out) Tryd.underlying24 rfl (by kernel_rfl)) rfl ?_
          exact ⟨rfl, below_setRow BA.out HN.out.2.2.2.2 _⟩
        | true =>
          have hag := HAG.out
          have ca0 := HA9.out.cell 0; have ca1 := HA9.out.cell 1; have ca2 := HA9.out.cell 2; simp only [List.getElem?_cons_zero, List.getElem?_cons_succ] at ca0 ca1 ca2
          have cbx0 := HAx.out.cell 0; have cbx1 := HAx.out.cell 1; have cbx2 := HAx.out.cell 2; simp only [List.getElem?_cons_zero, List.getElem?_cons_succ] at cbx0 cbx1 cbx2
          have cee0 := HA8.out.cell 0; have cee1 := HA8.out.cell 1; have cee2 := HA8.out.cell 2; have cee3 := HA8.out.cell 3; have cee4 := HA8.out.cell 4; have cee5 := HA8.out.cell 5; have cee6 := HA8.out.cell 6; have cee7 := HA8.out.cell 7; have cee8 := HA8.out.cell 8; have cee9 := HA8.out.cell 9; have cee10 := HA8.out.cell 10; simp only [List.getElem?_cons_zero, List.getElem?_cons_succ] at cee0 cee1 cee2 cee3 cee4 cee5 cee6 cee7 cee8 cee9 cee10
          cases again with
          | false =>
            go_wp2_with (first | ((with_reducible refine gate_store (t := 24) (p := 2) (v := .tmp 79) rfl ?_); refine wpList_store_row rfl 24 (.tmp 2) (.tmp 79) rfl br ([.int .i64 0, .int .i64 0, .int .i64 0, .int .i64 0, .int .i64 0, .int .u32 0, .int .i64 0, .bool false, .bool false, .int .i64 0, .int .u32 0] : List Value).toArray rfl rfl 24 _ HAr.out (by kernel_rfl) rfl (by kernel_rfl) ?_))
            refine bodyPost_ret (results_ct rfl _ _ br 24 ([.int .i64 0, .int .i64 0, .int .i64 0, .int .i64 0, .int .i64 0, .int .u32 0, .int .i64 0, .bool false, .bool false, .int .i64 0, .int .u32 0] : List Value).toArray (0, 0) _ rfl (setRow_heap _ _ _ _ 24 (0, 0) HAr.out) Tryd.underlying24 rfl (by kernel_rfl)) rfl ?_
            exact ⟨rfl, below_setRow BA.out HN.out.2.2.2.2 _⟩
          | true =>
            go_wp2_with (first | ((with_reducible refine gate_store (t := 24) (p := 2) (v := .tmp 80) rfl ?_); refine wpList_store_row rfl 24 (.tmp 2) (.tmp 80) rfl br ([.int .i64 (n0 : Int), .int .i64 (n1 : Int), .int .i64 (n2 : Int), .int .i64 (n3 : Int), .int .i64 (n7 : Int), .int .u32 (n9 : Int), .int .i64 (n4 : Int), .bool bS, .bool bT, .int .i64 (n10 : Int), .int .u32 (n8 : Int)] : List Value).toArray rfl rfl 24 _ HAr.out (by kernel_rfl) rfl (by kernel_rfl) ?_))
            refine bodyPost_ret (results_ct rfl _ _ br 24 ([.int .i64 (n0 : Int), .int .i64 (n1 : Int), .int .i64 (n2 : Int), .int .i64 (n3 : Int), .int .i64 (n7 : Int), .int .u32 (n9 : Int), .int .i64 (n4 : Int), .bool bS, .bool bT, .int .i64 (n10 : Int), .int .u32 (n8 : Int)] : List Value).toArray (0, 0) _ rfl (setRow_heap _ _ _ _ 24 (0, 0) HAr.out) Tryd.underlying24 rfl (by kernel_rfl)) rfl ?_
            exact ⟨rfl, below_setRow BA.out HN.out.2.2.2.2 _⟩
end Go.Proofs.YthonkcldddfpnaaDoor.FrameS
