/- The reference's words of a frame. -/
import Derived.Test.YthonkcldddfpnaaDoorFrameQ
import Derived.Test.YthonkcldddfpnaaDoorRegInv
import Derived.Test.YthonkcldddfpnaaDoorVals
import Derived.Test.YthonkcldddfpnaaDoorBlk
import Derived.WalkKit
import Derived.BigQuiet
import Derived.BigRegion
import Derived.RegionTactic
import Derived.KernelRfl
import Derived.Deep.RegionWith
import Derived.Deep.CutRange
import Derived.Deep.CutBlock
import Derived.Deep.LoopGhost
import Derived.Laws.CopyOwn
import Derived.Laws.Tables
namespace Go.Proofs.YthonkcldddfpnaaDoor.FrameR
open Go.RowKit Go.Proofs.YthonkcldddfpnaaDoor.PFrameGets Go.Proofs.YthonkcldddfpnaaDoorW.PrintWords Go.Proofs.YthonkcldddfpnaaDoorW.PrintLast Go.Proofs.YthonkcldddfpnaaDoorW.PrintMore Go.Proofs.YthonkcldddfpnaaDoor.Aid Go.Proofs.YthonkcldddfpnaaDoor.Quiet Go.Proofs.YthonkcldddfpnaaDoor.Blk Go.Proofs.YthonkcldddfpnaaDoor.State Go.Proofs.YthonkcldddfpnaaDoor.Vals Go.Proofs.YthonkcldddfpnaaDoor.FieldMath Go.Proofs.YthonkcldddfpnaaDoor.FrameF Go.Proofs.YthonkcldddfpnaaDoor.FrameQ
set_option linter.unusedVariables false
set_option linter.unusedSimpArgs false
attribute [local go_sem] max2_int min2_int max_two min_two
theorem q_of {P : Program} {f : FuncId} {args : Array Value} {v : Value} {w : World} {n : Nat} (h : Calls P f args (w.drewN n) fun e w' => e = .returned v ∧ ∃ m, w' = (w.drewN n).drewN m) :
    Calls P f args (w.drewN n) fun e w'' => e = .returned v ∧ ∃ m, w'' = w.drewN m := Calls.quiet_of h
theorem below8 {j : Nat} (h : j < 8) : j = 0 ∨ j = 1 ∨ j = 2 ∨ j = 3 ∨ j = 4 ∨ j = 5 ∨ j = 6 ∨ j = 7 := by omega
structure RR (bx k c v s g t nb nd : Nat) (b d : Bool) (w0 : World) (D : Nat → Bool) (u13 u14 u15 u16 u17 u18 u19 u20 u21 u22 u23 u24 u25 u26 u27 u28 u29 u30 u31 u32 u33 u34 u35 u36 u37 u4 : Value) (w : World) : Prop where
  below : Below w0.heap.size w0 w
  h0 : D 0 = true → u13 = .pointer (some ⟨bx, 0, none⟩)
  h1 : D 1 = true → u14 = .int .i64 (k : Int)
  h2 : D 2 = true → u15 = .int .u64 (k : Int)
  h3 : D 3 = true → u16 = .pointer (some ⟨bx, 1, none⟩)
  h4 : D 4 = true → u17 = .int .i64 (c : Int)
  h5 : D 5 = true → u18 = .int .u64 (c : Int)
  h6 : D 6 = true → u19 = .pointer (some ⟨bx, 2, none⟩)
  h7 : D 7 = true → u20 = .int .i64 (v : Int)
  h8 : D 8 = true → u21 = .int .u64 (v : Int)
  h9 : D 9 = true → u22 = .pointer (some ⟨bx, 3, none⟩)
  h10 : D 10 = true → u23 = .int .i64 (s : Int)
  h11 : D 11 = true → u24 = .int .u64 (s : Int)
  h12 : D 12 = true → u25 = .pointer (some ⟨bx, 6, none⟩)
  h13 : D 13 = true → u26 = .int .i64 (t : Int)
  h14 : D 14 = true → u27 = .int .u64 (t : Int)
  h15 : D 15 = true → u28 = .pointer (some ⟨bx, 7, none⟩)
  h16 : D 16 = true → u29 = .bool b
  h17 : D 17 = true → u30 = .int .u64 (nb : Int)
  h18 : D 18 = true → u31 = .pointer (some ⟨bx, 8, none⟩)
  h19 : D 19 = true → u32 = .bool d
  h20 : D 20 = true → u33 = .int .u64 (nd : Int)
  h21 : D 21 = true → u34 = .pointer (some ⟨bx, 4, none⟩)
  h22 : D 22 = true → u35 = .int .i64 (g : Int)
  h23 : D 23 = true → u36 = .int .u64 (g : Int)
  p37 : D 24 = true → ∃ p, u37 = .slice (some ⟨p, 0, none⟩) 8 8 ∧ w0.heap.size ≤ p ∧ HoldsV 26 w p [.int .u64 (k : Int), .int .u64 (c : Int), .int .u64 (v : Int), .int .u64 (s : Int), .int .u64 (t : Int), .int .u64 (nb : Int), .int .u64 (nd : Int), .int .u64 (g : Int)]
  v4 : D 25 = true → u4 = u37
  d25 : D 25 = true → D 24 = true

set_option maxHeartbeats 8000000 in
set_option maxRecDepth 100000 in
theorem put_core (k c v s g ca t q u nb nd : Nat) (b d : Bool) (hnb : cablewayref05_one.f b = some (nb : Int)) (hnd : cablewayref05_one.f d = some (nd : Int)) (hk : k < 2 ^ 62) (hc : c < 2 ^ 62) (hv : v < 2 ^ 62) (hs : s < 2 ^ 62) (hg : g < 2 ^ 62) (hca : ca < 2 ^ 32) (ht : t < 2 ^ 62) (hq : q < 2 ^ 62) (hu : u < 2 ^ 32) (p1 : Nat) (p2 : Nat) (p3 : Nat) (p4 : Nat) (p5 : Nat) (p6 : Nat) (p7 : Nat) (p8 : Nat) (hp1 : putN 0 0 4 k = p1) (hp2 : putN p1 4 4 c = p2) (hp3 : putN p2 8 4 v = p3) (hp4 : putN p3 12 8 s = p4) (hp5 : putN p4 20 4 t = p5) (hp6 : putN p5 24 1 nb = p6) (hp7 : putN p6 25 1 nd = p7) (hp8 : putN p7 26 24 g = p8) (pv : Nat) (hpv : ca + u * 4294967296 = pv)
    (hM : cablewayref05_May.f k c v s g ca t b d q u = some true) (W : World) : Calls Tryd.prog 15 #[.agg #[.int .i64 (k : Int), .int .i64 (c : Int), .int .i64 (v : Int), .int .i64 (s : Int), .int .i64 (g : Int), .int .u32 (ca : Int), .int .i64 (t : Int), .bool b, .bool d, .int .i64 (q : Int), .int .u32 (u : Int)]] W fun r w' => r = .returned (.tuple #[.agg #[.int .u64 (p8 : Int), .int .u64 (pv : Int), .int .u64 (q : Int)], .bool true]) ∧ Below W.heap.size W w' := by
  have kj0 : ∀ j, j < 8 → ∀ w, Calls Tryd.prog 52 #[.int .u64 (([0, p1, p2, p3, p4, p5, p6, p7, p8].getD j 0 : Nat) : Int), .int .i64 (([0, 4, 8, 12, 20, 24, 25, 26, 50].getD j 0 : Nat) : Int), .int .i64 (([4, 4, 4, 8, 4, 1, 1, 24].getD j 0 : Nat) : Int), .int .u64 (([k, c, v, s, t, nb, nd, g].getD j 0 : Nat) : Int)] w
      fun e w' => e = .returned (.int .u64 (([0, p1, p2, p3, p4, p5, p6, p7, p8].getD (j + 1) 0 : Nat) : Int)) ∧ ∃ m, w' = w.drewN m := by
    intro j hj w
    rcases below8 hj with rfl | rfl | rfl | rfl | rfl | rfl | rfl | rfl
    · exact ((cablewayref01_Put.calls 300 (0 : Int) 0 4 (k : Int) (p1 : Int) w (by rw [← hp1]; exact FrameF.refPut_eq 300 0 0 4 k (by decide) (by decide) (by decide) (by decide)))).mono (fun _ _ ⟨a, h⟩ => ⟨a, h.out⟩)
    · exact ((cablewayref01_Put.calls 300 (p1 : Int) 4 4 (c : Int) (p2 : Int) w (by rw [← hp2]; exact FrameF.refPut_eq 300 p1 4 4 c (by decide) (by decide) (by rw [← hp1]; exact putN_lt (by decide)) (by decide)))).mono (fun _ _ ⟨a, h⟩ => ⟨a, h.out⟩)
    · exact ((cablewayref01_Put.calls 300 (p2 : Int) 8 4 (v : Int) (p3 : Int) w (by rw [← hp3]; exact FrameF.refPut_eq 300 p2 8 4 v (by decide) (by decide) (by rw [← hp2]; exact putN_lt (by decide)) (by decide)))).mono (fun _ _ ⟨a, h⟩ => ⟨a, h.out⟩)
    · exact ((cablewayref01_Put.calls 300 (p3 : Int) 12 8 (s : Int) (p4 : Int) w (by rw [← hp4]; exact FrameF.refPut_eq 300 p3 12 8 s (by decide) (by decide) (by rw [← hp3]; exact putN_lt (by decide)) (by decide)))).mono (fun _ _ ⟨a, h⟩ => ⟨a, h.out⟩)
    · exact ((cablewayref01_Put.calls 300 (p4 : Int) 20 4 (t : Int) (p5 : Int) w (by rw [← hp5]; exact FrameF.refPut_eq 300 p4 20 4 t (by decide) (by decide) (by rw [← hp4]; exact putN_lt (by decide)) (by decide)))).mono (fun _ _ ⟨a, h⟩ => ⟨a, h.out⟩)
    · exact ((cablewayref01_Put.calls 300 (p5 : Int) 24 1 (nb : Int) (p6 : Int) w (by rw [← hp6]; exact FrameF.refPut_eq 300 p5 24 1 nb (by decide) (by decide) (by rw [← hp5]; exact putN_lt (by decide)) (by decide)))).mono (fun _ _ ⟨a, h⟩ => ⟨a, h.out⟩)
    · exact ((cablewayref01_Put.calls 300 (p6 : Int) 25 1 (nd : Int) (p7 : Int) w (by rw [← hp7]; exact FrameF.refPut_eq 300 p6 25 1 nd (by decide) (by decide) (by rw [← hp6]; exact putN_lt (by decide)) (by decide)))).mono (fun _ _ ⟨a, h⟩ => ⟨a, h.out⟩)
    · exact ((cablewayref01_Put.calls 300 (p7 : Int) 26 24 (g : Int) (p8 : Int) w (by rw [← hp8]; exact FrameF.refPut_eq 300 p7 26 24 g (by decide) (by decide) (by rw [← hp7]; exact putN_lt (by decide)) (by decide)))).mono (fun _ _ ⟨a, h⟩ => ⟨a, h.out⟩)
  have KJ := Aside0.mk kj0
  clear kj0
  have KM := Aside0.mk (fun w => cablewayref05_May.calls k c v s g ca t b d q u true w hM)
  have KB := Aside0.mk (fun w => (cablewayref05_one.calls b nb w hnb).mono (R' := fun r w' => r = .returned (.int .u64 (nb : Int)) ∧ Below w.heap.size w w') fun _ _ ⟨a, h⟩ => ⟨a, h.below⟩)
  have KD := Aside0.mk (fun w => (cablewayref05_one.calls d nd w hnd).mono (R' := fun r w' => r = .returned (.int .u64 (nd : Int)) ∧ Below w.heap.size w w') fun _ _ ⟨a, h⟩ => ⟨a, h.below⟩)
  have wu : ∀ n : Nat, n < 2 ^ 62 → IntKind.u64.wrap (n : Int) = (n : Int) := fun n h => wrap_u64_in _ (by omega) (by omega)
  have HW := Aside0.mk (And.intro (wu k hk) (And.intro (wu c hc) (And.intro (wu v hv) (And.intro (wu s hs) (And.intro (wu t ht) (And.intro (wu g hg) trivial))))))
  have hw1 := wu ca (by omega)
  have hw2 := wu u (by omega)
  have hw3 := wu q hq
  have hw4 : IntKind.u64.wrap ((u : Int) * 4294967296) = (u : Int) * 4294967296 := wrap_u64_in _ (by omega) (by omega)
  have hw5 : IntKind.u64.wrap ((ca : Int) + (u : Int) * 4294967296) = (pv : Int) := by rw [wrap_u64_in _ (by omega) (by omega)]; omega
  clear hnb hnd hk hc hv hs hg hca ht hq hu hpv hM wu hp1 hp2 hp3 hp4 hp5 hp6 hp7 hp8
  have hu24 := Tryd.underlying24
  have hu28 := Tryd.underlying28
  go_enter Tryd.func15, Tryd.ntmps15
  go_upto_region 1 with fail
  obtain ⟨bx, hbx⟩ : ∃ b, W.heap.size = b := ⟨_, rfl⟩
  obtain ⟨br, hbr⟩ : ∃ b, bx + 1 = b := ⟨_, rfl⟩
  rw [hbx, hbr]
  obtain ⟨w00, hw0⟩ : ∃ w0, ((W.alloc (.cells #[.int .i64 (k : Int), .int .i64 (c : Int), .int .i64 (v : Int), .int .i64 (s : Int), .int .i64 (g : Int), .int .u32 (ca : Int), .int .i64 (t : Int), .bool b, .bool d, .int .i64 (q : Int), .int .u32 (u : Int)] 24)).alloc (.cells #[.int .u64 0, .int .u64 0, .int .u64 0] 28)) = w0 := ⟨_, rfl⟩
  have hs0 : w00.heap.size = br + 1 := by rw [← hw0, ← hbr, ← hbx]; simp only [World.alloc, Array.size_push]
  have HX0 := Aside0.mk (show HoldsV 24 w00 bx [.int .i64 (k : Int), .int .i64 (c : Int), .int .i64 (v : Int), .int .i64 (s : Int), .int .i64 (g : Int), .int .u32 (ca : Int), .int .i64 (t : Int), .bool b, .bool d, .int .i64 (q : Int), .int .u32 (u : Int)] by rw [← hw0, ← hbx]; exact heap_old (heap_new _ _))
  have HR0 := Aside0.mk (show HoldsV 28 w00 br [.int .u64 0, .int .u64 0, .int .u64 0] by rw [← hw0, ← hbr, ← hbx]; exact heap_new' (w := W.alloc _) _ (Array.size_push ..))
  have HB0 := Aside0.mk (show Below W.heap.size W w00 by rw [← hw0]; exact ((Below.refl _ _).alloc (Nat.le_refl _) _).alloc (by simp only [World.alloc, Array.size_push]; omega) _)
  have HBR := Aside0.mk (show W.heap.size ≤ br by omega)
  rw [hw0]
  clear hw0 hbx hbr hs0
  have cx0 := HX0.out.cell 0; have cx1 := HX0.out.cell 1; have cx2 := HX0.out.cell 2; have cx3 := HX0.out.cell 3; have cx4 := HX0.out.cell 4; have cx5 := HX0.out.cell 5; have cx6 := HX0.out.cell 6; have cx7 := HX0.out.cell 7; have cx8 := HX0.out.cell 8; have cx9 := HX0.out.cell 9; have cx10 := HX0.out.cell 10; simp only [List.getElem?_cons_zero, List.getElem?_cons_succ] at cx0 cx1 cx2 cx3 cx4 cx5 cx6 cx7 cx8 cx9 cx10
  go_upto_if 11 with fail
  refine (KM.out _).mono ?_
  rintro e w0 ⟨rfl, hb9⟩
  have HX := Aside0.mk (HX0.out.below' hb9)
  have HR := Aside0.mk (HR0.out.below' hb9)
  have HB := Aside0.mk (HB0.out.trans (hb9.mono HB0.out.size))
  clear hb9 cx0 cx1 cx2 cx3 cx4 cx5 cx6 cx7 cx8 cx9 cx10 HX0 HR0 HB0
  go_upto_region 3 with fail
  go_cut [4] from 9 to 37 (fun v4 wx => ∃ p, v4 = .slice (some ⟨p, 0, none⟩) 8 8 ∧ HoldsV 26 wx p [.int .u64 (k : Int), .int .u64 (c : Int), .int .u64 (v : Int), .int .u64 (s : Int), .int .u64 (t : Int), .int .u64 (nb : Int), .int .u64 (nd : Int), .int .u64 (g : Int)] ∧ Below w0.heap.size w0 wx)
  case first =>
    refine RegInv.wp_region_steps (I := fun D a w => ∃ u13 u14 u15 u16 u17 u18 u19 u20 u21 u22 u23 u24 u25 u26 u27 u28 u29 u30 u31 u32 u33 u34 u35 u36 u37 u4, a = ⟨(.agg #[.int .i64 (k : Int), .int .i64 (c : Int), .int .i64 (v : Int), .int .i64 (s : Int), .int .i64 (g : Int), .int .u32 (ca : Int), .int .i64 (t : Int), .bool b, .bool d, .int .i64 (q : Int), .int .u32 (u : Int)] :: .pointer (some ⟨bx, 0, none⟩) :: .pointer (some ⟨br, 0, none⟩) :: .bool false :: u4 :: undef :: undef :: undef :: undef :: .agg #[.int .i64 (k : Int), .int .i64 (c : Int), .int .i64 (v : Int), .int .i64 (s : Int), .int .i64 (g : Int), .int .u32 (ca : Int), .int .i64 (t : Int), .bool b, .bool d, .int .i64 (q : Int), .int .u32 (u : Int)] :: .bool true :: .bool false :: undef :: u13 :: u14 :: u15 :: u16 :: u17 :: u18 :: u19 :: u20 :: u21 :: u22 :: u23 :: u24 :: u25 :: u26 :: u27 :: u28 :: u29 :: u30 :: u31 :: u32 :: u33 :: u34 :: u35 :: u36 :: u37 :: undef :: undef :: undef :: undef :: undef :: undef :: undef :: undef :: undef :: undef :: undef :: undef :: undef :: undef :: undef :: undef :: undef :: undef :: undef :: undef :: undef :: undef :: undef :: undef :: undef :: undef :: undef :: undef :: undef :: undef :: undef :: undef :: undef :: undef :: undef :: undef :: undef :: []).toArray, []⟩ ∧ RR bx k c v s g t nb nd b d w0 D u13 u14 u15 u16 u17 u18 u19 u20 u21 u22 u23 u24 u25 u26 u27 u28 u29 u30 u31 u32 u33 u34 u35 u36 u37 u4 w) (by kernel_rfl) (by kernel_rfl) ?_ ?_ ?_
    · exact ⟨_, _, _, _, _, _, _, _, _, _, _, _, _, _, _, _, _, _, _, _, _, _, _, _, _, _, rfl, ⟨(Below.refl _ _).drew, fun h => (by cases h), fun h => (by cases h), fun h => (by cases h), fun h => (by cases h), fun h => (by cases h), fun h => (by cases h), fun h => (by cases h), fun h => (by cases h), fun h => (by cases h), fun h => (by cases h), fun h => (by cases h), fun h => (by cases h), fun h => (by cases h), fun h => (by cases h), fun h => (by cases h), fun h => (by cases h), fun h => (by cases h), fun h => (by cases h), fun h => (by cases h), fun h => (by cases h), fun h => (by cases h), fun h => (by cases h), fun h => (by cases h), fun h => (by cases h), fun h => (by cases h), fun h => (by cases h), fun h => (by cases h)⟩⟩
    · rintro D a w ⟨u13, u14, u15, u16, u17, u18, u19, u20, u21, u22, u23, u24, u25, u26, u27, u28, u29, u30, u31, u32, u33, u34, u35, u36, u37, u4, rfl, hR⟩ hall
      obtain rfl := hR.h0 (hall 0 (by decide))
      obtain rfl := hR.h1 (hall 1 (by decide))
      obtain rfl := hR.h2 (hall 2 (by decide))
      obtain rfl := hR.h3 (hall 3 (by decide))
      obtain rfl := hR.h4 (hall 4 (by decide))
      obtain rfl := hR.h5 (hall 5 (by decide))
      obtain rfl := hR.h6 (hall 6 (by decide))
      obtain rfl := hR.h7 (hall 7 (by decide))
      obtain rfl := hR.h8 (hall 8 (by decide))
      obtain rfl := hR.h9 (hall 9 (by decide))
      obtain rfl := hR.h10 (hall 10 (by decide))
      obtain rfl := hR.h11 (hall 11 (by decide))
      obtain rfl := hR.h12 (hall 12 (by decide))
      obtain rfl := hR.h13 (hall 13 (by decide))
      obtain rfl := hR.h14 (hall 14 (by decide))
      obtain rfl := hR.h15 (hall 15 (by decide))
      obtain rfl := hR.h16 (hall 16 (by decide))
      obtain rfl := hR.h17 (hall 17 (by decide))
      obtain rfl := hR.h18 (hall 18 (by decide))
      obtain rfl := hR.h19 (hall 19 (by decide))
      obtain rfl := hR.h20 (hall 20 (by decide))
      obtain rfl := hR.h21 (hall 21 (by decide))
      obtain rfl := hR.h22 (hall 22 (by decide))
      obtain rfl := hR.h23 (hall 23 (by decide))
      obtain ⟨p, rfl, hp, hv⟩ := hR.p37 (hall 24 (by decide))
      obtain rfl := hR.v4 (hall 25 (by decide))
      have hb := hR.below
      go_wp2_with fail
      go_meet
      exact ⟨p, rfl, hv, hb⟩
    · refine RegInv.Steps.cons (fun D a w hI hD hdep K hK => ?_) ?_
      · obtain ⟨u13, u14, u15, u16, u17, u18, u19, u20, u21, u22, u23, u24, u25, u26, u27, u28, u29, u30, u31, u32, u33, u34, u35, u36, u37, u4, rfl, hR⟩ := hI
        rw [if_pos (by rfl)]
        go_simp
        exact hK.out _ _ ⟨_, _, _, _, _, _, _, _, _, _, _, _, _, _, _, _, _, _, _, _, _, _, _, _, _, _, rfl, ⟨hR.below, fun _ => rfl, hR.h1, hR.h2, hR.h3, hR.h4, hR.h5, hR.h6, hR.h7, hR.h8, hR.h9, hR.h10, hR.h11, hR.h12, hR.h13, hR.h14, hR.h15, hR.h16, hR.h17, hR.h18, hR.h19, hR.h20, hR.h21, hR.h22, hR.h23, hR.p37, hR.v4, hR.d25⟩⟩
      refine RegInv.Steps.cons (fun D a w hI hD hdep K hK => ?_) ?_
      · obtain ⟨u13, u14, u15, u16, u17, u18, u19, u20, u21, u22, u23, u24, u25, u26, u27, u28, u29, u30, u31, u32, u33, u34, u35, u36, u37, u4, rfl, hR⟩ := hI
        have d0 : D 0 = true := hdep ⟨0, .data⟩ (by simp) rfl
        obtain rfl := hR.h0 d0
        have cx := (HX.out.below hR.below HX.out.lt).cell 0
        simp only [List.getElem?_cons_zero, List.getElem?_cons_succ] at cx
        rw [if_pos (by rfl)]
        go_simp
        exact hK.out _ _ ⟨_, _, _, _, _, _, _, _, _, _, _, _, _, _, _, _, _, _, _, _, _, _, _, _, _, _, rfl, ⟨hR.below, hR.h0, fun _ => rfl, hR.h2, hR.h3, hR.h4, hR.h5, hR.h6, hR.h7, hR.h8, hR.h9, hR.h10, hR.h11, hR.h12, hR.h13, hR.h14, hR.h15, hR.h16, hR.h17, hR.h18, hR.h19, hR.h20, hR.h21, hR.h22, hR.h23, hR.p37, hR.v4, hR.d25⟩⟩
      refine RegInv.Steps.cons (fun D a w hI hD hdep K hK => ?_) ?_
      · obtain ⟨u13, u14, u15, u16, u17, u18, u19, u20, u21, u22, u23, u24, u25, u26, u27, u28, u29, u30, u31, u32, u33, u34, u35, u36, u37, u4, rfl, hR⟩ := hI
        have d1 : D 1 = true := hdep ⟨1, .data⟩ (by simp) rfl
        obtain rfl := hR.h1 d1
        have hb := HW.out.1
        rw [if_pos (by rfl)]
        go_simp
        exact hK.out _ _ ⟨_, _, _, _, _, _, _, _, _, _, _, _, _, _, _, _, _, _, _, _, _, _, _, _, _, _, rfl, ⟨hR.below, hR.h0, hR.h1, fun _ => rfl, hR.h3, hR.h4, hR.h5, hR.h6, hR.h7, hR.h8, hR.h9, hR.h10, hR.h11, hR.h12, hR.h13, hR.h14, hR.h15, hR.h16, hR.h17, hR.h18, hR.h19, hR.h20, hR.h21, hR.h22, hR.h23, hR.p37, hR.v4, hR.d25⟩⟩
      refine RegInv.Steps.cons (fun D a w hI hD hdep K hK => ?_) ?_
      · obtain ⟨u13, u14, u15, u16, u17, u18, u19, u20, u21, u22, u23, u24, u25, u26, u27, u28, u29, u30, u31, u32, u33, u34, u35, u36, u37, u4, rfl, hR⟩ := hI
        rw [if_pos (by rfl)]
        go_simp
        exact hK.out _ _ ⟨_, _, _, _, _, _, _, _, _, _, _, _, _, _, _, _, _, _, _, _, _, _, _, _, _, _, rfl, ⟨hR.below, hR.h0, hR.h1, hR.h2, fun _ => rfl, hR.h4, hR.h5, hR.h6, hR.h7, hR.h8, hR.h9, hR.h10, hR.h11, hR.h12, hR.h13, hR.h14, hR.h15, hR.h16, hR.h17, hR.h18, hR.h19, hR.h20, hR.h21, hR.h22, hR.h23, hR.p37, hR.v4, hR.d25⟩⟩
      refine RegInv.Steps.cons (fun D a w hI hD hdep K hK => ?_) ?_
      · obtain ⟨u13, u14, u15, u16, u17, u18, u19, u20, u21, u22, u23, u24, u25, u26, u27, u28, u29, u30, u31, u32, u33, u34, u35, u36, u37, u4, rfl, hR⟩ := hI
        have d3 : D 3 = true := hdep ⟨3, .data⟩ (by simp) rfl
        obtain rfl := hR.h3 d3
        have cx := (HX.out.below hR.below HX.out.lt).cell 1
        simp only [List.getElem?_cons_zero, List.getElem?_cons_succ] at cx
        rw [if_pos (by rfl)]
        go_simp
        exact hK.out _ _ ⟨_, _, _, _, _, _, _, _, _, _, _, _, _, _, _, _, _, _, _, _, _, _, _, _, _, _, rfl, ⟨hR.below, hR.h0, hR.h1, hR.h2, hR.h3, fun _ => rfl, hR.h5, hR.h6, hR.h7, hR.h8, hR.h9, hR.h10, hR.h11, hR.h12, hR.h13, hR.h14, hR.h15, hR.h16, hR.h17, hR.h18, hR.h19, hR.h20, hR.h21, hR.h22, hR.h23, hR.p37, hR.v4, hR.d25⟩⟩
      refine RegInv.Steps.cons (fun D a w hI hD hdep K hK => ?_) ?_
      · obtain ⟨u13, u14, u15, u16, u17, u18, u19, u20, u21, u22, u23, u24, u25, u26, u27, u28, u29, u30, u31, u32, u33, u34, u35, u36, u37, u4, rfl, hR⟩ := hI
        have d4 : D 4 = true := hdep ⟨4, .data⟩ (by simp) rfl
        obtain rfl := hR.h4 d4
        have hb := HW.out.2.1
        rw [if_pos (by rfl)]
        go_simp
        exact hK.out _ _ ⟨_, _, _, _, _, _, _, _, _, _, _, _, _, _, _, _, _, _, _, _, _, _, _, _, _, _, rfl, ⟨hR.below, hR.h0, hR.h1, hR.h2, hR.h3, hR.h4, fun _ => rfl, hR.h6, hR.h7, hR.h8, hR.h9, hR.h10, hR.h11, hR.h12, hR.h13, hR.h14, hR.h15, hR.h16, hR.h17, hR.h18, hR.h19, hR.h20, hR.h21, hR.h22, hR.h23, hR.p37, hR.v4, hR.d25⟩⟩
      refine RegInv.Steps.cons (fun D a w hI hD hdep K hK => ?_) ?_
      · obtain ⟨u13, u14, u15, u16, u17, u18, u19, u20, u21, u22, u23, u24, u25, u26, u27, u28, u29, u30, u31, u32, u33, u34, u35, u36, u37, u4, rfl, hR⟩ := hI
        rw [if_pos (by rfl)]
        go_simp
        exact hK.out _ _ ⟨_, _, _, _, _, _, _, _, _, _, _, _, _, _, _, _, _, _, _, _, _, _, _, _, _, _, rfl, ⟨hR.below, hR.h0, hR.h1, hR.h2, hR.h3, hR.h4, hR.h5, fun _ => rfl, hR.h7, hR.h8, hR.h9, hR.h10, hR.h11, hR.h12, hR.h13, hR.h14, hR.h15, hR.h16, hR.h17, hR.h18, hR.h19, hR.h20, hR.h21, hR.h22, hR.h23, hR.p37, hR.v4, hR.d25⟩⟩
      refine RegInv.Steps.cons (fun D a w hI hD hdep K hK => ?_) ?_
      · obtain ⟨u13, u14, u15, u16, u17, u18, u19, u20, u21, u22, u23, u24, u25, u26, u27, u28, u29, u30, u31, u32, u33, u34, u35, u36, u37, u4, rfl, hR⟩ := hI
        have d6 : D 6 = true := hdep ⟨6, .data⟩ (by simp) rfl
        obtain rfl := hR.h6 d6
        have cx := (HX.out.below hR.below HX.out.lt).cell 2
        simp only [List.getElem?_cons_zero, List.getElem?_cons_succ] at cx
        rw [if_pos (by rfl)]
        go_simp
        exact hK.out _ _ ⟨_, _, _, _, _, _, _, _, _, _, _, _, _, _, _, _, _, _, _, _, _, _, _, _, _, _, rfl, ⟨hR.below, hR.h0, hR.h1, hR.h2, hR.h3, hR.h4, hR.h5, hR.h6, fun _ => rfl, hR.h8, hR.h9, hR.h10, hR.h11, hR.h12, hR.h13, hR.h14, hR.h15, hR.h16, hR.h17, hR.h18, hR.h19, hR.h20, hR.h21, hR.h22, hR.h23, hR.p37, hR.v4, hR.d25⟩⟩
      refine RegInv.Steps.cons (fun D a w hI hD hdep K hK => ?_) ?_
      · obtain ⟨u13, u14, u15, u16, u17, u18, u19, u20, u21, u22, u23, u24, u25, u26, u27, u28, u29, u30, u31, u32, u33, u34, u35, u36, u37, u4, rfl, hR⟩ := hI
        have d7 : D 7 = true := hdep ⟨7, .data⟩ (by simp) rfl
        obtain rfl := hR.h7 d7
        have hb := HW.out.2.2.1
        rw [if_pos (by rfl)]
        go_simp
        exact hK.out _ _ ⟨_, _, _, _, _, _, _, _, _, _, _, _, _, _, _, _, _, _, _, _, _, _, _, _, _, _, rfl, ⟨hR.below, hR.h0, hR.h1, hR.h2, hR.h3, hR.h4, hR.h5, hR.h6, hR.h7, fun _ => rfl, hR.h9, hR.h10, hR.h11, hR.h12, hR.h13, hR.h14, hR.h15, hR.h16, hR.h17, hR.h18, hR.h19, hR.h20, hR.h21, hR.h22, hR.h23, hR.p37, hR.v4, hR.d25⟩⟩
      refine RegInv.Steps.cons (fun D a w hI hD hdep K hK => ?_) ?_
      · obtain ⟨u13, u14, u15, u16, u17, u18, u19, u20, u21, u22, u23, u24, u25, u26, u27, u28, u29, u30, u31, u32, u33, u34, u35, u36, u37, u4, rfl, hR⟩ := hI
        rw [if_pos (by rfl)]
        go_simp
        exact hK.out _ _ ⟨_, _, _, _, _, _, _, _, _, _, _, _, _, _, _, _, _, _, _, _, _, _, _, _, _, _, rfl, ⟨hR.below, hR.h0, hR.h1, hR.h2, hR.h3, hR.h4, hR.h5, hR.h6, hR.h7, hR.h8, fun _ => rfl, hR.h10, hR.h11, hR.h12, hR.h13, hR.h14, hR.h15, hR.h16, hR.h17, hR.h18, hR.h19, hR.h20, hR.h21, hR.h22, hR.h23, hR.p37, hR.v4, hR.d25⟩⟩
      refine RegInv.Steps.cons (fun D a w hI hD hdep K hK => ?_) ?_
      · obtain ⟨u13, u14, u15, u16, u17, u18, u19, u20, u21, u22, u23, u24, u25, u26, u27, u28, u29, u30, u31, u32, u33, u34, u35, u36, u37, u4, rfl, hR⟩ := hI
        have d9 : D 9 = true := hdep ⟨9, .data⟩ (by simp) rfl
        obtain rfl := hR.h9 d9
        have cx := (HX.out.below hR.below HX.out.lt).cell 3
        simp only [List.getElem?_cons_zero, List.getElem?_cons_succ] at cx
        rw [if_pos (by rfl)]
        go_simp
        exact hK.out _ _ ⟨_, _, _, _, _, _, _, _, _, _, _, _, _, _, _, _, _, _, _, _, _, _, _, _, _, _, rfl, ⟨hR.below, hR.h0, hR.h1, hR.h2, hR.h3, hR.h4, hR.h5, hR.h6, hR.h7, hR.h8, hR.h9, fun _ => rfl, hR.h11, hR.h12, hR.h13, hR.h14, hR.h15, hR.h16, hR.h17, hR.h18, hR.h19, hR.h20, hR.h21, hR.h22, hR.h23, hR.p37, hR.v4, hR.d25⟩⟩
      refine RegInv.Steps.cons (fun D a w hI hD hdep K hK => ?_) ?_
      · obtain ⟨u13, u14, u15, u16, u17, u18, u19, u20, u21, u22, u23, u24, u25, u26, u27, u28, u29, u30, u31, u32, u33, u34, u35, u36, u37, u4, rfl, hR⟩ := hI
        have d10 : D 10 = true := hdep ⟨10, .data⟩ (by simp) rfl
        obtain rfl := hR.h10 d10
        have hb := HW.out.2.2.2.1
        rw [if_pos (by rfl)]
        go_simp
        exact hK.out _ _ ⟨_, _, _, _, _, _, _, _, _, _, _, _, _, _, _, _, _, _, _, _, _, _, _, _, _, _, rfl, ⟨hR.below, hR.h0, hR.h1, hR.h2, hR.h3, hR.h4, hR.h5, hR.h6, hR.h7, hR.h8, hR.h9, hR.h10, fun _ => rfl, hR.h12, hR.h13, hR.h14, hR.h15, hR.h16, hR.h17, hR.h18, hR.h19, hR.h20, hR.h21, hR.h22, hR.h23, hR.p37, hR.v4, hR.d25⟩⟩
      refine RegInv.Steps.cons (fun D a w hI hD hdep K hK => ?_) ?_
      · obtain ⟨u13, u14, u15, u16, u17, u18, u19, u20, u21, u22, u23, u24, u25, u26, u27, u28, u29, u30, u31, u32, u33, u34, u35, u36, u37, u4, rfl, hR⟩ := hI
        rw [if_pos (by rfl)]
        go_simp
        exact hK.out _ _ ⟨_, _, _, _, _, _, _, _, _, _, _, _, _, _, _, _, _, _, _, _, _, _, _, _, _, _, rfl, ⟨hR.below, hR.h0, hR.h1, hR.h2, hR.h3, hR.h4, hR.h5, hR.h6, hR.h7, hR.h8, hR.h9, hR.h10, hR.h11, fun _ => rfl, hR.h13, hR.h14, hR.h15, hR.h16, hR.h17, hR.h18, hR.h19, hR.h20, hR.h21, hR.h22, hR.h23, hR.p37, hR.v4, hR.d25⟩⟩
      refine RegInv.Steps.cons (fun D a w hI hD hdep K hK => ?_) ?_
      · obtain ⟨u13, u14, u15, u16, u17, u18, u19, u20, u21, u22, u23, u24, u25, u26, u27, u28, u29, u30, u31, u32, u33, u34, u35, u36, u37, u4, rfl, hR⟩ := hI
        have d12 : D 12 = true := hdep ⟨12, .data⟩ (by simp) rfl
        obtain rfl := hR.h12 d12
        have cx := (HX.out.below hR.below HX.out.lt).cell 6
        simp only [List.getElem?_cons_zero, List.getElem?_cons_succ] at cx
        rw [if_pos (by rfl)]
        go_simp
        exact hK.out _ _ ⟨_, _, _, _, _, _, _, _, _, _, _, _, _, _, _, _, _, _, _, _, _, _, _, _, _, _, rfl, ⟨hR.below, hR.h0, hR.h1, hR.h2, hR.h3, hR.h4, hR.h5, hR.h6, hR.h7, hR.h8, hR.h9, hR.h10, hR.h11, hR.h12, fun _ => rfl, hR.h14, hR.h15, hR.h16, hR.h17, hR.h18, hR.h19, hR.h20, hR.h21, hR.h22, hR.h23, hR.p37, hR.v4, hR.d25⟩⟩
      refine RegInv.Steps.cons (fun D a w hI hD hdep K hK => ?_) ?_
      · obtain ⟨u13, u14, u15, u16, u17, u18, u19, u20, u21, u22, u23, u24, u25, u26, u27, u28, u29, u30, u31, u32, u33, u34, u35, u36, u37, u4, rfl, hR⟩ := hI
        have d13 : D 13 = true := hdep ⟨13, .data⟩ (by simp) rfl
        obtain rfl := hR.h13 d13
        have hb := HW.out.2.2.2.2.1
        rw [if_pos (by rfl)]
        go_simp
        exact hK.out _ _ ⟨_, _, _, _, _, _, _, _, _, _, _, _, _, _, _, _, _, _, _, _, _, _, _, _, _, _, rfl, ⟨hR.below, hR.h0, hR.h1, hR.h2, hR.h3, hR.h4, hR.h5, hR.h6, hR.h7, hR.h8, hR.h9, hR.h10, hR.h11, hR.h12, hR.h13, fun _ => rfl, hR.h15, hR.h16, hR.h17, hR.h18, hR.h19, hR.h20, hR.h21, hR.h22, hR.h23, hR.p37, hR.v4, hR.d25⟩⟩
      refine RegInv.Steps.cons (fun D a w hI hD hdep K hK => ?_) ?_
      · obtain ⟨u13, u14, u15, u16, u17, u18, u19, u20, u21, u22, u23, u24, u25, u26, u27, u28, u29, u30, u31, u32, u33, u34, u35, u36, u37, u4, rfl, hR⟩ := hI
        rw [if_pos (by rfl)]
        go_simp
        exact hK.out _ _ ⟨_, _, _, _, _, _, _, _, _, _, _, _, _, _, _, _, _, _, _, _, _, _, _, _, _, _, rfl, ⟨hR.below, hR.h0, hR.h1, hR.h2, hR.h3, hR.h4, hR.h5, hR.h6, hR.h7, hR.h8, hR.h9, hR.h10, hR.h11, hR.h12, hR.h13, hR.h14, fun _ => rfl, hR.h16, hR.h17, hR.h18, hR.h19, hR.h20, hR.h21, hR.h22, hR.h23, hR.p37, hR.v4, hR.d25⟩⟩
      refine RegInv.Steps.cons (fun D a w hI hD hdep K hK => ?_) ?_
      · obtain ⟨u13, u14, u15, u16, u17, u18, u19, u20, u21, u22, u23, u24, u25, u26, u27, u28, u29, u30, u31, u32, u33, u34, u35, u36, u37, u4, rfl, hR⟩ := hI
        have d15 : D 15 = true := hdep ⟨15, .data⟩ (by simp) rfl
        obtain rfl := hR.h15 d15
        have cx := (HX.out.below hR.below HX.out.lt).cell 7
        simp only [List.getElem?_cons_zero, List.getElem?_cons_succ] at cx
        rw [if_pos (by rfl)]
        go_simp
        exact hK.out _ _ ⟨_, _, _, _, _, _, _, _, _, _, _, _, _, _, _, _, _, _, _, _, _, _, _, _, _, _, rfl, ⟨hR.below, hR.h0, hR.h1, hR.h2, hR.h3, hR.h4, hR.h5, hR.h6, hR.h7, hR.h8, hR.h9, hR.h10, hR.h11, hR.h12, hR.h13, hR.h14, hR.h15, fun _ => rfl, hR.h17, hR.h18, hR.h19, hR.h20, hR.h21, hR.h22, hR.h23, hR.p37, hR.v4, hR.d25⟩⟩
      refine RegInv.Steps.cons (fun D a w hI hD hdep K hK => ?_) ?_
      · obtain ⟨u13, u14, u15, u16, u17, u18, u19, u20, u21, u22, u23, u24, u25, u26, u27, u28, u29, u30, u31, u32, u33, u34, u35, u36, u37, u4, rfl, hR⟩ := hI
        have d16 : D 16 = true := hdep ⟨16, .data⟩ (by simp) rfl
        obtain rfl := hR.h16 d16
        rw [if_pos (by rfl)]
        go_simp
        with_reducible refine ((KB.out _)).mono ?_
        rintro e w9 ⟨rfl, hb9⟩
        exact hK.out _ _ ⟨_, _, _, _, _, _, _, _, _, _, _, _, _, _, _, _, _, _, _, _, _, _, _, _, _, _, rfl, ⟨hR.below.trans (hb9.mono hR.below.size), hR.h0, hR.h1, hR.h2, hR.h3, hR.h4, hR.h5, hR.h6, hR.h7, hR.h8, hR.h9, hR.h10, hR.h11, hR.h12, hR.h13, hR.h14, hR.h15, hR.h16, fun _ => rfl, hR.h18, hR.h19, hR.h20, hR.h21, hR.h22, hR.h23, fun hd => let ⟨b, e, l, k⟩ := hR.p37 hd; ⟨b, e, l, k.below' hb9⟩, hR.v4, hR.d25⟩⟩
      refine RegInv.Steps.cons (fun D a w hI hD hdep K hK => ?_) ?_
      · obtain ⟨u13, u14, u15, u16, u17, u18, u19, u20, u21, u22, u23, u24, u25, u26, u27, u28, u29, u30, u31, u32, u33, u34, u35, u36, u37, u4, rfl, hR⟩ := hI
        rw [if_pos (by rfl)]
        go_simp
        exact hK.out _ _ ⟨_, _, _, _, _, _, _, _, _, _, _, _, _, _, _, _, _, _, _, _, _, _, _, _, _, _, rfl, ⟨hR.below, hR.h0, hR.h1, hR.h2, hR.h3, hR.h4, hR.h5, hR.h6, hR.h7, hR.h8, hR.h9, hR.h10, hR.h11, hR.h12, hR.h13, hR.h14, hR.h15, hR.h16, hR.h17, fun _ => rfl, hR.h19, hR.h20, hR.h21, hR.h22, hR.h23, hR.p37, hR.v4, hR.d25⟩⟩
      refine RegInv.Steps.cons (fun D a w hI hD hdep K hK => ?_) ?_
      · obtain ⟨u13, u14, u15, u16, u17, u18, u19, u20, u21, u22, u23, u24, u25, u26, u27, u28, u29, u30, u31, u32, u33, u34, u35, u36, u37, u4, rfl, hR⟩ := hI
        have d18 : D 18 = true := hdep ⟨18, .data⟩ (by simp) rfl
        obtain rfl := hR.h18 d18
        have cx := (HX.out.below hR.below HX.out.lt).cell 8
        simp only [List.getElem?_cons_zero, List.getElem?_cons_succ] at cx
        rw [if_pos (by rfl)]
        go_simp
        exact hK.out _ _ ⟨_, _, _, _, _, _, _, _, _, _, _, _, _, _, _, _, _, _, _, _, _, _, _, _, _, _, rfl, ⟨hR.below, hR.h0, hR.h1, hR.h2, hR.h3, hR.h4, hR.h5, hR.h6, hR.h7, hR.h8, hR.h9, hR.h10, hR.h11, hR.h12, hR.h13, hR.h14, hR.h15, hR.h16, hR.h17, hR.h18, fun _ => rfl, hR.h20, hR.h21, hR.h22, hR.h23, hR.p37, hR.v4, hR.d25⟩⟩
      refine RegInv.Steps.cons (fun D a w hI hD hdep K hK => ?_) ?_
      · obtain ⟨u13, u14, u15, u16, u17, u18, u19, u20, u21, u22, u23, u24, u25, u26, u27, u28, u29, u30, u31, u32, u33, u34, u35, u36, u37, u4, rfl, hR⟩ := hI
        have d19 : D 19 = true := hdep ⟨19, .data⟩ (by simp) rfl
        obtain rfl := hR.h19 d19
        rw [if_pos (by rfl)]
        go_simp
        with_reducible refine ((KD.out _)).mono ?_
        rintro e w9 ⟨rfl, hb9⟩
        exact hK.out _ _ ⟨_, _, _, _, _, _, _, _, _, _, _, _, _, _, _, _, _, _, _, _, _, _, _, _, _, _, rfl, ⟨hR.below.trans (hb9.mono hR.below.size), hR.h0, hR.h1, hR.h2, hR.h3, hR.h4, hR.h5, hR.h6, hR.h7, hR.h8, hR.h9, hR.h10, hR.h11, hR.h12, hR.h13, hR.h14, hR.h15, hR.h16, hR.h17, hR.h18, hR.h19, fun _ => rfl, hR.h21, hR.h22, hR.h23, fun hd => let ⟨b, e, l, k⟩ := hR.p37 hd; ⟨b, e, l, k.below' hb9⟩, hR.v4, hR.d25⟩⟩
      refine RegInv.Steps.cons (fun D a w hI hD hdep K hK => ?_) ?_
      · obtain ⟨u13, u14, u15, u16, u17, u18, u19, u20, u21, u22, u23, u24, u25, u26, u27, u28, u29, u30, u31, u32, u33, u34, u35, u36, u37, u4, rfl, hR⟩ := hI
        rw [if_pos (by rfl)]
        go_simp
        exact hK.out _ _ ⟨_, _, _, _, _, _, _, _, _, _, _, _, _, _, _, _, _, _, _, _, _, _, _, _, _, _, rfl, ⟨hR.below, hR.h0, hR.h1, hR.h2, hR.h3, hR.h4, hR.h5, hR.h6, hR.h7, hR.h8, hR.h9, hR.h10, hR.h11, hR.h12, hR.h13, hR.h14, hR.h15, hR.h16, hR.h17, hR.h18, hR.h19, hR.h20, fun _ => rfl, hR.h22, hR.h23, hR.p37, hR.v4, hR.d25⟩⟩
      refine RegInv.Steps.cons (fun D a w hI hD hdep K hK => ?_) ?_
      · obtain ⟨u13, u14, u15, u16, u17, u18, u19, u20, u21, u22, u23, u24, u25, u26, u27, u28, u29, u30, u31, u32, u33, u34, u35, u36, u37, u4, rfl, hR⟩ := hI
        have d21 : D 21 = true := hdep ⟨21, .data⟩ (by simp) rfl
        obtain rfl := hR.h21 d21
        have cx := (HX.out.below hR.below HX.out.lt).cell 4
        simp only [List.getElem?_cons_zero, List.getElem?_cons_succ] at cx
        rw [if_pos (by rfl)]
        go_simp
        exact hK.out _ _ ⟨_, _, _, _, _, _, _, _, _, _, _, _, _, _, _, _, _, _, _, _, _, _, _, _, _, _, rfl, ⟨hR.below, hR.h0, hR.h1, hR.h2, hR.h3, hR.h4, hR.h5, hR.h6, hR.h7, hR.h8, hR.h9, hR.h10, hR.h11, hR.h12, hR.h13, hR.h14, hR.h15, hR.h16, hR.h17, hR.h18, hR.h19, hR.h20, hR.h21, fun _ => rfl, hR.h23, hR.p37, hR.v4, hR.d25⟩⟩
      refine RegInv.Steps.cons (fun D a w hI hD hdep K hK => ?_) ?_
      · obtain ⟨u13, u14, u15, u16, u17, u18, u19, u20, u21, u22, u23, u24, u25, u26, u27, u28, u29, u30, u31, u32, u33, u34, u35, u36, u37, u4, rfl, hR⟩ := hI
        have d22 : D 22 = true := hdep ⟨22, .data⟩ (by simp) rfl
        obtain rfl := hR.h22 d22
        have hb := HW.out.2.2.2.2.2.1
        rw [if_pos (by rfl)]
        go_simp
        exact hK.out _ _ ⟨_, _, _, _, _, _, _, _, _, _, _, _, _, _, _, _, _, _, _, _, _, _, _, _, _, _, rfl, ⟨hR.below, hR.h0, hR.h1, hR.h2, hR.h3, hR.h4, hR.h5, hR.h6, hR.h7, hR.h8, hR.h9, hR.h10, hR.h11, hR.h12, hR.h13, hR.h14, hR.h15, hR.h16, hR.h17, hR.h18, hR.h19, hR.h20, hR.h21, hR.h22, fun _ => rfl, hR.p37, hR.v4, hR.d25⟩⟩
      refine RegInv.Steps.cons (fun D a w hI hD hdep K hK => ?_) ?_
      · obtain ⟨u13, u14, u15, u16, u17, u18, u19, u20, u21, u22, u23, u24, u25, u26, u27, u28, u29, u30, u31, u32, u33, u34, u35, u36, u37, u4, rfl, hR⟩ := hI
        have d2 : D 2 = true := hdep ⟨2, .data⟩ (by simp) rfl
        obtain rfl := hR.h2 d2
        have d5 : D 5 = true := hdep ⟨5, .data⟩ (by simp) rfl
        obtain rfl := hR.h5 d5
        have d8 : D 8 = true := hdep ⟨8, .data⟩ (by simp) rfl
        obtain rfl := hR.h8 d8
        have d11 : D 11 = true := hdep ⟨11, .data⟩ (by simp) rfl
        obtain rfl := hR.h11 d11
        have d14 : D 14 = true := hdep ⟨14, .data⟩ (by simp) rfl
        obtain rfl := hR.h14 d14
        have d17 : D 17 = true := hdep ⟨17, .data⟩ (by simp) rfl
        obtain rfl := hR.h17 d17
        have d20 : D 20 = true := hdep ⟨20, .data⟩ (by simp) rfl
        obtain rfl := hR.h20 d20
        have d23 : D 23 = true := hdep ⟨23, .data⟩ (by simp) rfl
        obtain rfl := hR.h23 d23
        rw [if_pos (by rfl)]
        go_simp
        exact hK.out _ _ ⟨_, _, _, _, _, _, _, _, _, _, _, _, _, _, _, _, _, _, _, _, _, _, _, _, _, _, rfl, ⟨hR.below.alloc hR.below.size _, hR.h0, hR.h1, hR.h2, hR.h3, hR.h4, hR.h5, hR.h6, hR.h7, hR.h8, hR.h9, hR.h10, hR.h11, hR.h12, hR.h13, hR.h14, hR.h15, hR.h16, hR.h17, hR.h18, hR.h19, hR.h20, hR.h21, hR.h22, hR.h23, fun _ => ⟨_, rfl, hR.below.size, heap_new _ _⟩, fun h => absurd (hR.d25 h) (by rw [hD]; decide), fun _ => rfl⟩⟩
      refine RegInv.Steps.cons (fun D a w hI hD hdep K hK => ?_) ?_
      · obtain ⟨u13, u14, u15, u16, u17, u18, u19, u20, u21, u22, u23, u24, u25, u26, u27, u28, u29, u30, u31, u32, u33, u34, u35, u36, u37, u4, rfl, hR⟩ := hI
        have d24 : D 24 = true := hdep ⟨24, .data⟩ (by simp) rfl
        rw [if_pos (by rfl)]
        go_simp
        exact hK.out _ _ ⟨_, _, _, _, _, _, _, _, _, _, _, _, _, _, _, _, _, _, _, _, _, _, _, _, _, _, rfl, ⟨hR.below, hR.h0, hR.h1, hR.h2, hR.h3, hR.h4, hR.h5, hR.h6, hR.h7, hR.h8, hR.h9, hR.h10, hR.h11, hR.h12, hR.h13, hR.h14, hR.h15, hR.h16, hR.h17, hR.h18, hR.h19, hR.h20, hR.h21, hR.h22, hR.h23, hR.p37, fun _ => rfl, fun _ => d24⟩⟩
      exact RegInv.Steps.nil

  case rest =>
    obtain ⟨p, rfl, hp, hbw⟩ := hcut
    have cn0 : ∀ n : Nat, ∀ j, j < 8 → ((wc.alloc (.cells #[.int .i64 4, .int .i64 4, .int .i64 4, .int .i64 8, .int .i64 4, .int .i64 1, .int .i64 1, .int .i64 24] 3)).drewN n).cell? ⟨p, j, none⟩ = some (.int .u64 (([k, c, v, s, t, nb, nd, g].getD j 0 : Nat) : Int)) := by
      intro n j hj
      have h := (show HoldsV 26 ((wc.alloc (.cells #[.int .i64 4, .int .i64 4, .int .i64 4, .int .i64 8, .int .i64 4, .int .i64 1, .int .i64 1, .int .i64 24] 3)).drewN n) p [.int .u64 (k : Int), .int .u64 (c : Int), .int .u64 (v : Int), .int .u64 (s : Int), .int .u64 (t : Int), .int .u64 (nb : Int), .int .u64 (nd : Int), .int .u64 (g : Int)] from heap_old hp).cell j
      rcases below8 hj with rfl | rfl | rfl | rfl | rfl | rfl | rfl | rfl <;> exact h
    have cb0 : ∀ n : Nat, ∀ j, j < 8 → ((wc.alloc (.cells #[.int .i64 4, .int .i64 4, .int .i64 4, .int .i64 8, .int .i64 4, .int .i64 1, .int .i64 1, .int .i64 24] 3)).drewN n).cell? ⟨wc.heap.size, j, none⟩ = some (.int .i64 (([4, 4, 4, 8, 4, 1, 1, 24].getD j 0 : Nat) : Int)) := by
      intro n j hj
      have h := (show HoldsV 3 ((wc.alloc (.cells #[.int .i64 4, .int .i64 4, .int .i64 4, .int .i64 8, .int .i64 4, .int .i64 1, .int .i64 1, .int .i64 24] 3)).drewN n) wc.heap.size [.int .i64 4, .int .i64 4, .int .i64 4, .int .i64 8, .int .i64 4, .int .i64 1, .int .i64 1, .int .i64 24] from heap_new _ _).cell j
      rcases below8 hj with rfl | rfl | rfl | rfl | rfl | rfl | rfl | rfl <;> exact h
    have CN := Aside0.mk cn0
    have CB := Aside0.mk cb0
    clear cn0 cb0
    have HBW := Aside0.mk (hbw.alloc hbw.size (.cells #[.int .i64 4, .int .i64 4, .int .i64 4, .int .i64 8, .int .i64 4, .int .i64 1, .int .i64 1, .int .i64 24] 3))
    have HBX := Aside0.mk hbw
    clear hp hbw
    have CRB := Aside0.mk (show HoldsV 24 (wc.alloc (.cells #[.int .i64 4, .int .i64 4, .int .i64 4, .int .i64 8, .int .i64 4, .int .i64 1, .int .i64 1, .int .i64 24] 3)) bx [.int .i64 (k : Int), .int .i64 (c : Int), .int .i64 (v : Int), .int .i64 (s : Int), .int .i64 (g : Int), .int .u32 (ca : Int), .int .i64 (t : Int), .bool b, .bool d, .int .i64 (q : Int), .int .u32 (u : Int)] ∧ HoldsV 28 (wc.alloc (.cells #[.int .i64 4, .int .i64 4, .int .i64 4, .int .i64 8, .int .i64 4, .int .i64 1, .int .i64 1, .int .i64 24] 3)) br [.int .u64 0, .int .u64 0, .int .u64 0] from ⟨heap_old (HX.out.below HBX.out HX.out.lt), heap_old (HR.out.below HBX.out HR.out.lt)⟩)
    have STEP := Aside0.mk (show ∀ j, j < 8 → [0, 4, 8, 12, 20, 24, 25, 26, 50].getD j 0 + [4, 4, 4, 8, 4, 1, 1, 24].getD j 0 = [0, 4, 8, 12, 20, 24, 25, 26, 50].getD (j + 1) 0 ∧ [0, 4, 8, 12, 20, 24, 25, 26, 50].getD j 0 ≤ 50 ∧ [4, 4, 4, 8, 4, 1, 1, 24].getD j 0 ≤ 24 by decide)
    go_wp2_with fail
    obtain ⟨pb, hpb⟩ : ∃ pb, wc.heap.size = pb := ⟨_, rfl⟩
    obtain ⟨wz, hwz⟩ : ∃ wz, wc.alloc (.cells #[.int .i64 4, .int .i64 4, .int .i64 4, .int .i64 8, .int .i64 4, .int .i64 1, .int .i64 1, .int .i64 24] 3) = wz := ⟨_, rfl⟩
    rw [hwz, hpb] at CB
    rw [hwz] at CN HBW CRB ⊢
    rw [hpb]
    clear hwz hpb HBX
    go_loopg [6, 7, 8] 8 (fun gg pw at_ i wx => ∃ (j n : Nat), gg + j = 8 ∧ i = .int .i64 (j : Int) ∧ pw = .int .u64 (([0, p1, p2, p3, p4, p5, p6, p7, p8].getD j 0 : Nat) : Int) ∧ at_ = .int .i64 (([0, 4, 8, 12, 20, 24, 25, 26, 50].getD j 0 : Nat) : Int) ∧ wx = wz.drewN n)
    case atStart => exact ⟨0, 0, rfl, rfl, rfl, rfl, rfl⟩
    case round =>
      obtain ⟨j, n, hj, rfl, rfl, rfl, rfl⟩ := hrel
      have HJ := Aside0.mk hj
      clear hj
      by_cases hlt : j < 8
      · have d1 : decide ((j : Int) < 8) = true := decide_eq_true (by omega)
        have cb := CB.out n j hlt
        have cn := CN.out n j hlt
        have st := STEP.out j hlt
        have KP := KJ.out j hlt
        obtain ⟨pw, hpw⟩ : ∃ x, [0, p1, p2, p3, p4, p5, p6, p7, p8].getD j 0 = x := ⟨_, rfl⟩
        obtain ⟨pw1, hpw1⟩ : ∃ x, [0, p1, p2, p3, p4, p5, p6, p7, p8].getD (j + 1) 0 = x := ⟨_, rfl⟩
        obtain ⟨aj, haj⟩ : ∃ x, [0, 4, 8, 12, 20, 24, 25, 26, 50].getD j 0 = x := ⟨_, rfl⟩
        obtain ⟨aj1, haj1⟩ : ∃ x, [0, 4, 8, 12, 20, 24, 25, 26, 50].getD (j + 1) 0 = x := ⟨_, rfl⟩
        obtain ⟨bj, hbj⟩ : ∃ x, [4, 4, 4, 8, 4, 1, 1, 24].getD j 0 = x := ⟨_, rfl⟩
        obtain ⟨nj, hnj⟩ : ∃ x, [k, c, v, s, t, nb, nd, g].getD j 0 = x := ⟨_, rfl⟩
        rw [hpw, haj] at ⊢
        rw [hpw, hpw1, haj, hbj, hnj] at KP
        rw [haj, haj1, hbj] at st
        rw [hbj] at cb
        rw [hnj] at cn
        have KP2 := Aside0.mk KP
        have HE := Aside0.mk (And.intro hpw1 haj1)
        clear KP hpw hpw1 haj haj1 hbj hnj
        obtain ⟨wb, hwb⟩ : ∃ x, wz.drewN n = x := ⟨_, rfl⟩
        rw [hwb] at cb cn ⊢
        go_wp2_with fail
        go_quiet ((first | (go_at_call 52; exact q_of (KP2.out _))))
        go_wp2_with fail
        go_roundg (8 - (j + 1))
        case measure => have := HJ.out; omega
        case rel => exact ⟨j + 1, n + nq, by have := HJ.out; omega, by go_num, by rw [HE.out.1], by rw [HE.out.2, ← st.1]; go_num, by rw [← hwb]; simp⟩
      · have d1 : decide ((j : Int) < 8) = false := decide_eq_false (by omega)
        obtain rfl : j = 8 := by have := HJ.out; omega
        clear CN CB STEP KJ
        obtain ⟨wb, hwb⟩ : ∃ x, wz.drewN n = x := ⟨_, rfl⟩
        have hx : HoldsV 24 wb bx [.int .i64 (k : Int), .int .i64 (c : Int), .int .i64 (v : Int), .int .i64 (s : Int), .int .i64 (g : Int), .int .u32 (ca : Int), .int .i64 (t : Int), .bool b, .bool d, .int .i64 (q : Int), .int .u32 (u : Int)] := by rw [← hwb]; exact CRB.out.1
        have hr : HoldsV 28 wb br [.int .u64 0, .int .u64 0, .int .u64 0] := by rw [← hwb]; exact CRB.out.2
        have hbb : Below W.heap.size W wb := by rw [← hwb]; exact HB.out.trans ((below_drewN HBW.out n).mono HB.out.size)
        rw [hwb]
        show Code.wp _ _ _ ⟨#[_, _, _, _, _, _, .int .u64 (p8 : Int), _, _, _, _, _, _, _, _, _, _, _, _, _, _, _, _, _, _, _, _, _, _, _, _, _, _, _, _, _, _, _, _, _, _, _, _, _, _, _, _, _, _, _, _, _, _, _, _, _, _, _, _, _, _, _, _, _, _, _, _, _, _, _, _, _, _, _, _], _⟩ _
        have cy5 := hx.cell 5; have cy9 := hx.cell 9; have cy10 := hx.cell 10; simp only [List.getElem?_cons_zero, List.getElem?_cons_succ] at cy5 cy9 cy10
        go_wp2_with (first | ((with_reducible refine gate_store (t := 28) (p := 2) (v := .tmp 74) rfl ?_); refine wpList_store_row rfl 28 (.tmp 2) (.tmp 74) rfl br ([.int .u64 (p8 : Int), .int .u64 (pv : Int), .int .u64 (q : Int)] : List Value).toArray rfl rfl 28 _ hr (by kernel_rfl) rfl (by kernel_rfl) ?_))
        refine bodyPost_ret (results_ct rfl _ _ br 28 ([.int .u64 (p8 : Int), .int .u64 (pv : Int), .int .u64 (q : Int)] : List Value).toArray (0, 0) _ rfl (setRow_heap _ _ _ _ 28 (0, 0) hr) Tryd.underlying28 rfl (by kernel_rfl)) rfl ?_
        exact ⟨rfl, below_setRow hbb HBR.out _⟩

set_option maxHeartbeats 8000000 in
set_option maxRecDepth 100000 in
theorem put_none (k c v s g ca t q u : Int) (b d : Bool) (hM : cablewayref05_May.f k c v s g ca t b d q u = some false) (W : World) : Calls Tryd.prog 15 #[.agg #[.int .i64 k, .int .i64 c, .int .i64 v, .int .i64 s, .int .i64 g, .int .u32 ca, .int .i64 t, .bool b, .bool d, .int .i64 q, .int .u32 u]] W fun r w' => r = .returned (.tuple #[.agg #[.int .u64 0, .int .u64 0, .int .u64 0], .bool false]) ∧ Below W.heap.size W w' := by
  have KM := Aside0.mk (fun w => cablewayref05_May.calls k c v s g ca t b d q u false w hM)
  clear hM
  have hu24 := Tryd.underlying24
  have hu28 := Tryd.underlying28
  go_enter Tryd.func15, Tryd.ntmps15
  go_upto_region 1 with fail
  obtain ⟨w0, hw0⟩ : ∃ w0, ((W.alloc (.cells #[.int .i64 k, .int .i64 c, .int .i64 v, .int .i64 s, .int .i64 g, .int .u32 ca, .int .i64 t, .bool b, .bool d, .int .i64 q, .int .u32 u] 24)).alloc (.cells #[.int .u64 0, .int .u64 0, .int .u64 0] 28)) = w0 := ⟨_, rfl⟩
  have HX := Aside0.mk (show HoldsV 24 w0 W.heap.size [.int .i64 k, .int .i64 c, .int .i64 v, .int .i64 s, .int .i64 g, .int .u32 ca, .int .i64 t, .bool b, .bool d, .int .i64 q, .int .u32 u] by rw [← hw0]; exact heap_old (heap_new _ _))
  have HR := Aside0.mk (show HoldsV 28 w0 (W.heap.size + 1) [.int .u64 0, .int .u64 0, .int .u64 0] by rw [← hw0]; exact heap_new' (w := W.alloc _) _ (Array.size_push ..))
  have HB := Aside0.mk (show Below W.heap.size W w0 by rw [← hw0]; exact ((Below.refl _ _).alloc (Nat.le_refl _) _).alloc (by simp only [World.alloc, Array.size_push]; omega) _)
  rw [hw0]
  clear hw0
  have cx0 := HX.out.cell 0; have cx1 := HX.out.cell 1; have cx2 := HX.out.cell 2; have cx3 := HX.out.cell 3; have cx4 := HX.out.cell 4; have cx5 := HX.out.cell 5; have cx6 := HX.out.cell 6; have cx7 := HX.out.cell 7; have cx8 := HX.out.cell 8; have cx9 := HX.out.cell 9; have cx10 := HX.out.cell 10; simp only [List.getElem?_cons_zero, List.getElem?_cons_succ] at cx0 cx1 cx2 cx3 cx4 cx5 cx6 cx7 cx8 cx9 cx10
  go_upto_if 11 with fail
  refine (KM.out _).mono ?_
  rintro e w1 ⟨rfl, hb9⟩
  have B1 := Aside0.mk hb9
  clear hb9
  go_wp2_with (first | ((with_reducible refine gate_store (t := 28) (p := 2) (v := .tmp 12) rfl ?_); refine wpList_store_row rfl 28 (.tmp 2) (.tmp 12) rfl (W.heap.size + 1) ([.int .u64 0, .int .u64 0, .int .u64 0] : List Value).toArray rfl rfl 28 _ (HR.out.below B1.out HR.out.lt) (by kernel_rfl) rfl (by kernel_rfl) ?_))
  refine bodyPost_ret (results_ct rfl _ _ (W.heap.size + 1) 28 ([.int .u64 0, .int .u64 0, .int .u64 0] : List Value).toArray (0, 0) _ rfl (setRow_heap _ _ _ _ 28 (0, 0) (HR.out.below B1.out HR.out.lt)) Tryd.underlying28 rfl (by kernel_rfl)) rfl ?_
  exact ⟨rfl, below_setRow (HB.out.trans (B1.out.mono HB.out.size)) (by omega) _⟩
theorem ref_ok (k c v s g ca t q u : Nat) (b d : Bool) (hok : okF k c v s g t q = true) (hca : ca < 2 ^ 32) (hu : u < 2 ^ 32) (W : World) :
    Calls Tryd.prog 15 #[.agg #[.int .i64 (k : Int), .int .i64 (c : Int), .int .i64 (v : Int), .int .i64 (s : Int), .int .i64 (g : Int), .int .u32 (ca : Int), .int .i64 (t : Int), .bool b, .bool d, .int .i64 (q : Int), .int .u32 (u : Int)]] W fun r w' => r = .returned (.tuple #[.agg #[.int .u64 (word0 k c v s g t b d : Int), .int .u64 ((ca + u * 4294967296 : Nat) : Int), .int .u64 (q : Int)], .bool true]) ∧ Below W.heap.size W w' := by
  have h0 := of_decide_eq_true hok
  have hb : ∀ b, cablewayref05_one.f b = some (nB b : Int) := fun b => by cases b <;> rfl
  exact put_core k c v s g ca t q u (nB b) (nB d) b d (hb b) (hb d) (by omega) (by omega) (by omega) (by omega) (by omega) hca (by omega) (by omega) hu _ _ _ _ _ _ _ _ rfl rfl rfl rfl rfl rfl rfl (chain hok) _ rfl (by rw [refmay_nat, hok]) W
theorem ref_bad (k c v s g ca t q u : Int) (b d : Bool) (hok : decide (1 ≤ k ∧ k ≤ 10 ∧ 0 ≤ c ∧ c ≤ 3 ∧ 0 ≤ v ∧ v ≤ 3 ∧ 0 ≤ s ∧ s ≤ 15 ∧ 0 ≤ g ∧ g ≤ 16777215 ∧ 0 ≤ t ∧ t ≤ 15 ∧ 0 ≤ q ∧ q ≤ 65535) = false) (W : World) :
    Calls Tryd.prog 15 #[.agg #[.int .i64 k, .int .i64 c, .int .i64 v, .int .i64 s, .int .i64 g, .int .u32 ca, .int .i64 t, .bool b, .bool d, .int .i64 q, .int .u32 u]] W fun r w' => r = .returned (.tuple #[.agg #[.int .u64 0, .int .u64 0, .int .u64 0], .bool false]) ∧ Below W.heap.size W w' :=
  put_none k c v s g ca t q u b d (by rw [ref_may_eq, hok]) W
end Go.Proofs.YthonkcldddfpnaaDoor.FrameR
