/- A frame of words: its first part. -/
import Derived.Test.YthonkcldddfpnaaDoorFrameF
import Derived.Test.YthonkcldddfpnaaDoorLaidFrame
import Derived.Test.YthonkcldddfpnaaDoorRegInv
import Derived.Test.YthonkcldddfpnaaDoorVals
import Derived.Test.YthonkcldddfpnaaDoorBlk
import Derived.WalkKit
import Derived.BigQuiet
import Derived.BigRegion
import Derived.RegionTactic
import Derived.KernelRfl
import Derived.Deep.RegionWith
import Derived.Deep.CutRange
import Derived.Deep.CutBlock
import Derived.Laws.CopyOwn
import Derived.Laws.Tables
namespace Go.Proofs.YthonkcldddfpnaaDoor.FrameG
open Go.RowKit Go.Proofs.YthonkcldddfpnaaDoor.PFrameGets Go.Proofs.YthonkcldddfpnaaDoorW.PrintWords Go.Proofs.YthonkcldddfpnaaDoorW.PrintLast Go.Proofs.YthonkcldddfpnaaDoorW.PrintMore Go.Proofs.YthonkcldddfpnaaDoor.Aid Go.Proofs.YthonkcldddfpnaaDoor.Quiet Go.Proofs.YthonkcldddfpnaaDoor.Blk Go.Proofs.YthonkcldddfpnaaDoor.State Go.Proofs.YthonkcldddfpnaaDoor.Vals Go.Proofs.YthonkcldddfpnaaDoor.FieldMath Go.Proofs.YthonkcldddfpnaaDoor.FrameF Go.Proofs.YthonkcldddfpnaaDoor.LaidFrame
set_option linter.unusedVariables false
set_option linter.unusedSimpArgs false
attribute [local go_sem] max2_int min2_int max_two min_two
def vals85 (l : List (Nat × Nat)) : List Value := l.flatMap fun p => [.int .i64 (p.1 : Int), .int .i64 (p.2 : Int)]
theorem flat_get : ∀ (l : List (Nat × Nat)) (j : Nat) (h : j < l.length), (vals85 l)[j * 2]? = some (.int .i64 ((l[j]).1 : Int)) ∧ (vals85 l)[j * 2 + 1]? = some (.int .i64 ((l[j]).2 : Int)) := by
  intro l
  induction l with
  | nil => intro j h; simp at h
  | cons p l ih =>
    intro j h
    cases j with
    | zero => exact ⟨rfl, rfl⟩
    | succ j =>
      have := ih j (by simpa using h)
      have e : (j + 1) * 2 = j * 2 + 1 + 1 := by omega
      rw [e]
      simpa [vals85] using this
theorem C85 {w : World} {b : Nat} {t : TypeId} {l : List (Nat × Nat)} (h : HoldsV t w b (vals85 l)) (hl : l.length ≤ 9223372036854775807) : Kd.C k85 w (some ⟨b, 0, none⟩) (s85 l).length (s85 l) := by
  refine ⟨rfl, by simpa [s85] using hl, fun hp => ⟨_, rfl, fun j p hj => ?_⟩⟩
  obtain ⟨x, hx, rfl⟩ : ∃ x, l[j]? = some x ∧ (⟨(x.1 : Int), (x.2 : Int)⟩ : S85) = p := by simpa [s85, List.getElem?_map, Option.map_eq_some_iff] using hj
  obtain ⟨hj', hx⟩ := List.getElem?_eq_some_iff.1 hx
  refine ⟨_, rfl, k85_mk w ⟨(x.1 : Int), (x.2 : Int)⟩, fun i u hu => ?_⟩
  have hi : i < 2 := by have := (List.getElem?_eq_some_iff.1 hu).1; simpa using this
  have hf := flat_get l j hj'
  rw [hx] at hf
  have hadd : (⟨b, 0, none⟩ : Addr).add (j * k85.sz + i) = ⟨b, j * 2 + i, none⟩ := by
    show (⟨b, 0, none⟩ : Addr).add (j * 2 + i) = _
    unfold Addr.add
    split <;> simp_all
  rw [hadd, h.cell]
  have hi2 : i = 0 ∨ i = 1 := by omega
  rcases hi2 with rfl | rfl
  · rw [Nat.add_zero, hf.1]; exact hu
  · rw [hf.2]; exact hu
def fields8 : List (Nat × Nat) := [(0, 4), (4, 4), (8, 4), (12, 8), (20, 4), (24, 1), (25, 1), (26, 24)]
theorem rest8_calls (x : Nat) (hx : x < 2 ^ 64) (w : World) (b : Nat) (h : HoldsV 85 w b (vals85 fields8)) : Calls Tryd.prog 54 #[.int .u64 (x : Int), .slice (some ⟨b, 0, none⟩) 8 8] w fun e w' => e = .returned (.int .u64 (restN x fields8 : Int)) ∧ Below w.heap.size w w' :=
  field_Rest.calls 200 x (some ⟨b, 0, none⟩) 8 (s85 fields8) _ w (C85 h (by decide)) (by decide) (rest_eq fields8 (by decide) (by decide) x hx)
theorem rest1_calls (x : Nat) (hx : x < 2 ^ 64) (w : World) (b : Nat) (h : HoldsV 85 w b (vals85 [(0, 16)])) : Calls Tryd.prog 54 #[.int .u64 (x : Int), .slice (some ⟨b, 0, none⟩) 1 1] w fun e w' => e = .returned (.int .u64 (restN x [(0, 16)] : Int)) ∧ Below w.heap.size w w' :=
  field_Rest.calls 200 x (some ⟨b, 0, none⟩) 1 (s85 [(0, 16)]) _ w (C85 h (by decide)) (by decide) (rest_eq [(0, 16)] (by decide) (by decide) x hx)
structure RG2 (bx x0 x1 n5 n6 n9 n8 : Nat) (bS bT : Bool) (w0 : World) (D : Nat → Bool) (u6 u7 u8 u9 u10 u11 u12 u13 u14 u15 u16 u17 u18 u19 u20 u21 u22 u23 u24 u25 u26 u27 u28 u29 u30 u5 : Value) (w : World) : Prop where
  below : Below w0.heap.size w0 w
  h0 : D 0 = true → u6 = .func (.func 53) #[] #[]
  h1 : D 1 = true → u7 = .agg #[.int .i64 24, .int .i64 1]
  h2 : D 2 = true → u8 = .pointer (some ⟨bx, 0, none⟩)
  h3 : D 3 = true → u9 = .int .u64 (x0 : Int)
  h4 : D 4 = true → u10 = .int .u64 (n5 : Int)
  h5 : D 5 = true → u11 = .bool bS
  h6 : D 6 = true → u12 = .func (.func 53) #[] #[]
  h7 : D 7 = true → u13 = .agg #[.int .i64 25, .int .i64 1]
  h8 : D 8 = true → u14 = .pointer (some ⟨bx, 0, none⟩)
  h9 : D 9 = true → u15 = .int .u64 (x0 : Int)
  h10 : D 10 = true → u16 = .int .u64 (n6 : Int)
  h11 : D 11 = true → u17 = .bool bT
  h12 : D 12 = true → u18 = .func (.func 53) #[] #[]
  h13 : D 13 = true → u19 = .agg #[.int .i64 0, .int .i64 32]
  h14 : D 14 = true → u20 = .pointer (some ⟨bx, 1, none⟩)
  h15 : D 15 = true → u21 = .int .u64 (x1 : Int)
  h16 : D 16 = true → u22 = .int .u64 (n9 : Int)
  h17 : D 17 = true → u23 = .int .u32 (n9 : Int)
  h18 : D 18 = true → u24 = .func (.func 53) #[] #[]
  h19 : D 19 = true → u25 = .agg #[.int .i64 32, .int .i64 32]
  h20 : D 20 = true → u26 = .pointer (some ⟨bx, 1, none⟩)
  h21 : D 21 = true → u27 = .int .u64 (x1 : Int)
  h22 : D 22 = true → u28 = .int .u64 (n8 : Int)
  h23 : D 23 = true → u29 = .int .u32 (n8 : Int)
  h24 : D 24 = true → u30 = .agg ([.int .i64 0, .int .i64 0, .int .i64 0, .int .i64 0, .int .i64 0, .int .u32 (n9 : Int), .int .i64 0, .bool bS, .bool bT, .int .i64 0, .int .u32 (n8 : Int)] : List Value).toArray
  p5 : D 25 = true → ∃ p, u5 = .pointer (some ⟨p, 0, none⟩) ∧ w0.heap.size ≤ p ∧ HoldsV 24 w p (if D 26 = true then [.int .i64 0, .int .i64 0, .int .i64 0, .int .i64 0, .int .i64 0, .int .u32 (n9 : Int), .int .i64 0, .bool bS, .bool bT, .int .i64 0, .int .u32 (n8 : Int)] else [.int .i64 0, .int .i64 0, .int .i64 0, .int .i64 0, .int .i64 0, .int .u32 0, .int .i64 0, .bool false, .bool false, .int .i64 0, .int .u32 0])
  d26 : D 26 = true → D 25 = true
structure RG3 (bx b5 x0 n9 n8 n0 n1 n2 n3 n4 n7 : Nat) (bS bT : Bool) (w0 : World) (D : Nat → Bool) (u31 u32 u33 u34 u35 u36 u37 u38 u39 u40 u41 u42 u43 u44 u45 u46 u47 u48 u49 u50 u51 : Value) (w : World) : Prop where
  below : Below w0.heap.size w0 w
  h0 : D 0 = true → u31 = .func (.func 53) #[] #[]
  h1 : D 1 = true → u32 = .agg #[.int .i64 0, .int .i64 4]
  h2 : D 2 = true → u33 = .pointer (some ⟨bx, 0, none⟩)
  h3 : D 3 = true → u34 = .int .u64 (x0 : Int)
  h4 : D 4 = true → u35 = .int .u64 (n0 : Int)
  h5 : D 5 = true → u36 = .int .i64 (n0 : Int)
  h6 : D 6 = true → u37 = .func (.func 53) #[] #[]
  h7 : D 7 = true → u38 = .agg #[.int .i64 4, .int .i64 4]
  h8 : D 8 = true → u39 = .pointer (some ⟨bx, 0, none⟩)
  h9 : D 9 = true → u40 = .int .u64 (x0 : Int)
  h10 : D 10 = true → u41 = .int .u64 (n1 : Int)
  h11 : D 11 = true → u42 = .int .i64 (n1 : Int)
  h12 : D 12 = true → u43 = .func (.func 53) #[] #[]
  h13 : D 13 = true → u44 = .agg #[.int .i64 8, .int .i64 4]
  h14 : D 14 = true → u45 = .pointer (some ⟨bx, 0, none⟩)
  h15 : D 15 = true → u46 = .int .u64 (x0 : Int)
  h16 : D 16 = true → u47 = .int .u64 (n2 : Int)
  h17 : D 17 = true → u48 = .int .i64 (n2 : Int)
  h18 : D 18 = true → u49 = .pointer (some ⟨b5, 0, none⟩)
  h20 : D 20 = true → u50 = .pointer (some ⟨b5, 1, none⟩)
  h22 : D 22 = true → u51 = .pointer (some ⟨b5, 2, none⟩)
  v5 : HoldsV 24 w b5 [.int .i64 (if D 19 = true then (n0 : Int) else 0), .int .i64 (if D 21 = true then (n1 : Int) else 0), .int .i64 (if D 23 = true then (n2 : Int) else 0), .int .i64 0, .int .i64 0, .int .u32 (n9 : Int), .int .i64 0, .bool bS, .bool bT, .int .i64 0, .int .u32 (n8 : Int)]
structure RG4 (bx b5 x0 n9 n8 n0 n1 n2 n3 n4 n7 : Nat) (bS bT : Bool) (w0 : World) (D : Nat → Bool) (u52 u53 u54 u55 u56 u57 u58 u59 u60 u61 u62 u63 u64 u65 u66 u67 u68 u69 u70 u71 u72 : Value) (w : World) : Prop where
  below : Below w0.heap.size w0 w
  h0 : D 0 = true → u52 = .func (.func 53) #[] #[]
  h1 : D 1 = true → u53 = .agg #[.int .i64 12, .int .i64 8]
  h2 : D 2 = true → u54 = .pointer (some ⟨bx, 0, none⟩)
  h3 : D 3 = true → u55 = .int .u64 (x0 : Int)
  h4 : D 4 = true → u56 = .int .u64 (n3 : Int)
  h5 : D 5 = true → u57 = .int .i64 (n3 : Int)
  h6 : D 6 = true → u58 = .func (.func 53) #[] #[]
  h7 : D 7 = true → u59 = .agg #[.int .i64 20, .int .i64 4]
  h8 : D 8 = true → u60 = .pointer (some ⟨bx, 0, none⟩)
  h9 : D 9 = true → u61 = .int .u64 (x0 : Int)
  h10 : D 10 = true → u62 = .int .u64 (n4 : Int)
  h11 : D 11 = true → u63 = .int .i64 (n4 : Int)
  h12 : D 12 = true → u64 = .func (.func 53) #[] #[]
  h13 : D 13 = true → u65 = .agg #[.int .i64 26, .int .i64 24]
  h14 : D 14 = true → u66 = .pointer (some ⟨bx, 0, none⟩)
  h15 : D 15 = true → u67 = .int .u64 (x0 : Int)
  h16 : D 16 = true → u68 = .int .u64 (n7 : Int)
  h17 : D 17 = true → u69 = .int .i64 (n7 : Int)
  h18 : D 18 = true → u70 = .pointer (some ⟨b5, 3, none⟩)
  h20 : D 20 = true → u71 = .pointer (some ⟨b5, 6, none⟩)
  h22 : D 22 = true → u72 = .pointer (some ⟨b5, 4, none⟩)
  v5 : HoldsV 24 w b5 [.int .i64 (n0 : Int), .int .i64 (n1 : Int), .int .i64 (n2 : Int), .int .i64 (if D 19 = true then (n3 : Int) else 0), .int .i64 (if D 23 = true then (n7 : Int) else 0), .int .u32 (n9 : Int), .int .i64 (if D 21 = true then (n4 : Int) else 0), .bool bS, .bool bT, .int .i64 0, .int .u32 (n8 : Int)]

set_option maxHeartbeats 8000000 in
set_option maxRecDepth 100000 in
theorem get_core (x0 x1 x2 : Nat) (hx0 : x0 < 2 ^ 64) (hx1 : x1 < 2 ^ 64) (hx2 : x2 < 2 ^ 64) (n0 : Nat) (n1 : Nat) (n2 : Nat) (n3 : Nat) (n4 : Nat) (n5 : Nat) (n6 : Nat) (n7 : Nat) (n8 : Nat) (n9 : Nat) (n10 : Nat) (h0 : getN x0 0 4 = n0) (h1 : getN x0 4 4 = n1) (h2 : getN x0 8 4 = n2) (h3 : getN x0 12 8 = n3) (h4 : getN x0 20 4 = n4) (h5 : getN x0 24 1 = n5) (h6 : getN x0 25 1 = n6) (h7 : getN x0 26 24 = n7) (h8 : getN x1 32 32 = n8) (h9 : getN x1 0 32 = n9) (h10 : getN x2 0 16 = n10) (bS bT : Bool) (hS : ((n5 : Int) == 1) = bS) (hT : ((n6 : Int) == 1) = bT) (rA rB : Nat) (rA0 : restN x0 fields8 = rA) (rB0 : restN x2 [(0, 16)] = rB) (bA bB fm : Bool) (hA : ((rA : Int) != 0) = bA) (hB : ((rB : Int) != 0) = bB) (hM : frame_May.f n0 n1 n2 n3 n7 n9 n4 bS bT n10 n8 = some fm)
    (w : World) (gl : Cells w) : Calls Tryd.prog 16 #[.agg #[.int .u64 (x0 : Int), .int .u64 (x1 : Int), .int .u64 (x2 : Int)]] w fun r w' => r = .returned (.tuple (if (bA || (bB || !fm)) = true then #[.agg #[.int .i64 0, .int .i64 0, .int .i64 0, .int .i64 0, .int .i64 0, .int .u32 0, .int .i64 0, .bool false, .bool false, .int .i64 0, .int .u32 0], .int .i64 2] else #[.agg #[.int .i64 (n0 : Int), .int .i64 (n1 : Int), .int .i64 (n2 : Int), .int .i64 (n3 : Int), .int .i64 (n7 : Int), .int .u32 (n9 : Int), .int .i64 (n4 : Int), .bool bS, .bool bT, .int .i64 (n10 : Int), .int .u32 (n8 : Int)], .int .i64 0])) ∧ Below w.heap.size w w' := by
  have G0 := Aside0.mk (fun w => (PSlotWords.field_Field_Get.calls 0 4 (x0 : Int) (n0 : Int) w (by rw [← h0]; exact SlotF.fGet_eq x0 0 4 (by decide) (by decide) hx0) : Calls Tryd.prog 53 #[.agg #[.int .i64 0, .int .i64 4], .int .u64 (x0 : Int)] w fun e w' => e = .returned (.int .u64 (n0 : Int)) ∧ Below w.heap.size w w'))
  have G1 := Aside0.mk (fun w => (PSlotWords.field_Field_Get.calls 4 4 (x0 : Int) (n1 : Int) w (by rw [← h1]; exact SlotF.fGet_eq x0 4 4 (by decide) (by decide) hx0) : Calls Tryd.prog 53 #[.agg #[.int .i64 4, .int .i64 4], .int .u64 (x0 : Int)] w fun e w' => e = .returned (.int .u64 (n1 : Int)) ∧ Below w.heap.size w w'))
  have G2 := Aside0.mk (fun w => (PSlotWords.field_Field_Get.calls 8 4 (x0 : Int) (n2 : Int) w (by rw [← h2]; exact SlotF.fGet_eq x0 8 4 (by decide) (by decide) hx0) : Calls Tryd.prog 53 #[.agg #[.int .i64 8, .int .i64 4], .int .u64 (x0 : Int)] w fun e w' => e = .returned (.int .u64 (n2 : Int)) ∧ Below w.heap.size w w'))
  have G3 := Aside0.mk (fun w => (PSlotWords.field_Field_Get.calls 12 8 (x0 : Int) (n3 : Int) w (by rw [← h3]; exact SlotF.fGet_eq x0 12 8 (by decide) (by decide) hx0) : Calls Tryd.prog 53 #[.agg #[.int .i64 12, .int .i64 8], .int .u64 (x0 : Int)] w fun e w' => e = .returned (.int .u64 (n3 : Int)) ∧ Below w.heap.size w w'))
  have G4 := Aside0.mk (fun w => (PSlotWords.field_Field_Get.calls 20 4 (x0 : Int) (n4 : Int) w (by rw [← h4]; exact SlotF.fGet_eq x0 20 4 (by decide) (by decide) hx0) : Calls Tryd.prog 53 #[.agg #[.int .i64 20, .int .i64 4], .int .u64 (x0 : Int)] w fun e w' => e = .returned (.int .u64 (n4 : Int)) ∧ Below w.heap.size w w'))
  have G5 := Aside0.mk (fun w => (PSlotWords.field_Field_Get.calls 24 1 (x0 : Int) (n5 : Int) w (by rw [← h5]; exact SlotF.fGet_eq x0 24 1 (by decide) (by decide) hx0) : Calls Tryd.prog 53 #[.agg #[.int .i64 24, .int .i64 1], .int .u64 (x0 : Int)] w fun e w' => e = .returned (.int .u64 (n5 : Int)) ∧ Below w.heap.size w w'))
  have G6 := Aside0.mk (fun w => (PSlotWords.field_Field_Get.calls 25 1 (x0 : Int) (n6 : Int) w (by rw [← h6]; exact SlotF.fGet_eq x0 25 1 (by decide) (by decide) hx0) : Calls Tryd.prog 53 #[.agg #[.int .i64 25, .int .i64 1], .int .u64 (x0 : Int)] w fun e w' => e = .returned (.int .u64 (n6 : Int)) ∧ Below w.heap.size w w'))
  have G7 := Aside0.mk (fun w => (PSlotWords.field_Field_Get.calls 26 24 (x0 : Int) (n7 : Int) w (by rw [← h7]; exact SlotF.fGet_eq x0 26 24 (by decide) (by decide) hx0) : Calls Tryd.prog 53 #[.agg #[.int .i64 26, .int .i64 24], .int .u64 (x0 : Int)] w fun e w' => e = .returned (.int .u64 (n7 : Int)) ∧ Below w.heap.size w w'))
  have G8 := Aside0.mk (fun w => (PSlotWords.field_Field_Get.calls 32 32 (x1 : Int) (n8 : Int) w (by rw [← h8]; exact SlotF.fGet_eq x1 32 32 (by decide) (by decide) hx1) : Calls Tryd.prog 53 #[.agg #[.int .i64 32, .int .i64 32], .int .u64 (x1 : Int)] w fun e w' => e = .returned (.int .u64 (n8 : Int)) ∧ Below w.heap.size w w'))
  have G9 := Aside0.mk (fun w => (PSlotWords.field_Field_Get.calls 0 32 (x1 : Int) (n9 : Int) w (by rw [← h9]; exact SlotF.fGet_eq x1 0 32 (by decide) (by decide) hx1) : Calls Tryd.prog 53 #[.agg #[.int .i64 0, .int .i64 32], .int .u64 (x1 : Int)] w fun e w' => e = .returned (.int .u64 (n9 : Int)) ∧ Below w.heap.size w w'))
  have G10 := Aside0.mk (fun w => (PSlotWords.field_Field_Get.calls 0 16 (x2 : Int) (n10 : Int) w (by rw [← h10]; exact SlotF.fGet_eq x2 0 16 (by decide) (by decide) hx2) : Calls Tryd.prog 53 #[.agg #[.int .i64 0, .int .i64 16], .int .u64 (x2 : Int)] w fun e w' => e = .returned (.int .u64 (n10 : Int)) ∧ Below w.heap.size w w'))
  have l9 : n9 < 4294967296 := by rw [← h9]; exact Nat.mod_lt _ (by decide)
  have l8 : n8 < 4294967296 := by rw [← h8]; exact Nat.mod_lt _ (by decide)
  have HC := Aside0.mk (And.intro hS (And.intro hT (And.intro (show IntKind.u32.wrap (n9 : Int) = (n9 : Int) by simp [IntKind.wrap, IntKind.bits, IntKind.signed]; omega) (And.intro (show IntKind.u32.wrap (n8 : Int) = (n8 : Int) by simp [IntKind.wrap, IntKind.bits, IntKind.signed]; omega) trivial))))
  have HW10 := Aside0.mk (show IntKind.i64.wrap (n10 : Int) = (n10 : Int) by rw [IntKind.wrap_i64]; have : n10 < 2 ^ 16 := (by rw [← h10]; exact Nat.mod_lt _ (by decide)); omega)
  have HW := Aside0.mk (And.intro (show IntKind.i64.wrap (n0 : Int) = (n0 : Int) by rw [IntKind.wrap_i64]; have : n0 < 2 ^ 24 := (by rw [← h0]; exact Nat.lt_of_lt_of_le (Nat.mod_lt _ (by decide)) (by decide)); omega) ( And.intro (show IntKind.i64.wrap (n1 : Int) = (n1 : Int) by rw [IntKind.wrap_i64]; have : n1 < 2 ^ 24 := (by rw [← h1]; exact Nat.lt_of_lt_of_le (Nat.mod_lt _ (by decide)) (by decide)); omega) ( And.intro (show IntKind.i64.wrap (n2 : Int) = (n2 : Int) by rw [IntKind.wrap_i64]; have : n2 < 2 ^ 24 := (by rw [← h2]; exact Nat.lt_of_lt_of_le (Nat.mod_lt _ (by decide)) (by decide)); omega) ( And.intro (show IntKind.i64.wrap (n3 : Int) = (n3 : Int) by rw [IntKind.wrap_i64]; have : n3 < 2 ^ 24 := (by rw [← h3]; exact Nat.lt_of_lt_of_le (Nat.mod_lt _ (by decide)) (by decide)); omega) ( And.intro (show IntKind.i64.wrap (n4 : Int) = (n4 : Int) by rw [IntKind.wrap_i64]; have : n4 < 2 ^ 24 := (by rw [← h4]; exact Nat.lt_of_lt_of_le (Nat.mod_lt _ (by decide)) (by decide)); omega) ( And.intro (show IntKind.i64.wrap (n5 : Int) = (n5 : Int) by rw [IntKind.wrap_i64]; have : n5 < 2 ^ 24 := (by rw [← h5]; exact Nat.lt_of_lt_of_le (Nat.mod_lt _ (by decide)) (by decide)); omega) ( And.intro (show IntKind.i64.wrap (n6 : Int) = (n6 : Int) by rw [IntKind.wrap_i64]; have : n6 < 2 ^ 24 := (by rw [← h6]; exact Nat.lt_of_lt_of_le (Nat.mod_lt _ (by decide)) (by decide)); omega) ( And.intro (show IntKind.i64.wrap (n7 : Int) = (n7 : Int) by rw [IntKind.wrap_i64]; have : n7 < 2 ^ 24 := (by rw [← h7]; exact Nat.lt_of_lt_of_le (Nat.mod_lt _ (by decide)) (by decide)); omega) (trivial)))))))))
  have K8 := Aside0.mk (fun w b h => (rA0 ▸ rest8_calls x0 hx0 w b h : Calls Tryd.prog 54 #[.int .u64 (x0 : Int), .slice (some ⟨b, 0, none⟩) 8 8] w fun e w' => e = .returned (.int .u64 (rA : Int)) ∧ Below w.heap.size w w'))
  have K1 := Aside0.mk (fun w b h => (rB0 ▸ rest1_calls x2 hx2 w b h : Calls Tryd.prog 54 #[.int .u64 (x2 : Int), .slice (some ⟨b, 0, none⟩) 1 1] w fun e w' => e = .returned (.int .u64 (rB : Int)) ∧ Below w.heap.size w w'))
  have HA := Aside0.mk hA
  have HB0 := Aside0.mk hB
  have KM := Aside0.mk (fun w => frame_May.calls n0 n1 n2 n3 n7 n9 n4 bS bT n10 n8 fm w hM)
  clear rA0 rB0 hA hB hM
  have GL0 := Aside0.mk gl
  clear h0 h1 h2 h3 h4 h5 h6 h7 h8 h9 h10 hS hT gl hx0 hx1 hx2 l9 l8
  have hu24 := Tryd.underlying24
  go_enter Tryd.func16, Tryd.ntmps16
  go_upto_region 2 with fail
  obtain ⟨bx, hbx⟩ : ∃ b, w.heap.size = b := ⟨_, rfl⟩
  obtain ⟨br, hbr⟩ : ∃ b, bx + 1 = b := ⟨_, rfl⟩
  rw [hbx, hbr]
  obtain ⟨w0, hw0⟩ : ∃ w0, ((w.alloc (.cells #[.int .u64 (x0 : Int), .int .u64 (x1 : Int), .int .u64 (x2 : Int)] 28)).alloc (.cells ([.int .i64 0, .int .i64 0, .int .i64 0, .int .i64 0, .int .i64 0, .int .u32 0, .int .i64 0, .bool false, .bool false, .int .i64 0, .int .u32 0] : List Value).toArray 24)) = w0 := ⟨_, rfl⟩
  have hs0 : w0.heap.size = br + 1 := by rw [← hw0, ← hbr, ← hbx]; simp only [World.alloc, Array.size_push]
  have HX := Aside0.mk (show HoldsV 28 w0 bx [.int .u64 (x0 : Int), .int .u64 (x1 : Int), .int .u64 (x2 : Int)] by rw [← hw0, ← hbx]; exact heap_old (heap_new _ _))
  have HR := Aside0.mk (show HoldsV 24 w0 br [.int .i64 0, .int .i64 0, .int .i64 0, .int .i64 0, .int .i64 0, .int .u32 0, .int .i64 0, .bool false, .bool false, .int .i64 0, .int .u32 0] by rw [← hw0, ← hbr, ← hbx]; exact heap_new' (w := w.alloc _) _ (Array.size_push ..))
  have HB := Aside0.mk (show Below w.heap.size w w0 by rw [← hw0]; exact ((Below.refl _ _).alloc (Nat.le_refl _) _).alloc (by simp only [World.alloc, Array.size_push]; omega) _)
  have GL := Aside0.mk (GL0.out.below HB.out GL0.out.size)
  have HS := Aside0.mk (show 10 < w0.heap.size by have := GL0.out.size; omega)
  have HBR := Aside0.mk (show w.heap.size ≤ br by omega)
  rw [hw0]
  clear hw0 hbx hbr GL0
  go_cut [5] from 6 to 30 (fun p5 wx => ∃ p, p5 = .pointer (some ⟨p, 0, none⟩) ∧ w0.heap.size ≤ p ∧ HoldsV 24 wx p [.int .i64 0, .int .i64 0, .int .i64 0, .int .i64 0, .int .i64 0, .int .u32 (n9 : Int), .int .i64 0, .bool bS, .bool bT, .int .i64 0, .int .u32 (n8 : Int)] ∧ Below w0.heap.size w0 wx)
  case first =>
    refine RegInv.wp_region_steps (I := fun D a w => ∃ u6 u7 u8 u9 u10 u11 u12 u13 u14 u15 u16 u17 u18 u19 u20 u21 u22 u23 u24 u25 u26 u27 u28 u29 u30 u5, a = ⟨(.agg #[.int .u64 (x0 : Int), .int .u64 (x1 : Int), .int .u64 (x2 : Int)] :: .pointer (some ⟨bx, 0, none⟩) :: .pointer (some ⟨br, 0, none⟩) :: .int .i64 0 :: .func (.func 53) #[] #[] :: u5 :: u6 :: u7 :: u8 :: u9 :: u10 :: u11 :: u12 :: u13 :: u14 :: u15 :: u16 :: u17 :: u18 :: u19 :: u20 :: u21 :: u22 :: u23 :: u24 :: u25 :: u26 :: u27 :: u28 :: u29 :: u30 :: undef :: undef :: undef :: undef :: undef :: undef :: undef :: undef :: undef :: undef :: undef :: undef :: undef :: undef :: undef :: undef :: undef :: undef :: undef :: undef :: undef :: undef :: undef :: undef :: undef :: undef :: undef :: undef :: undef :: undef :: undef :: undef :: undef :: undef :: undef :: undef :: undef :: undef :: undef :: undef :: undef :: undef :: undef :: undef :: undef :: undef :: undef :: undef :: undef :: undef :: undef :: undef :: undef :: undef :: undef :: undef :: undef :: undef :: undef :: undef :: undef :: undef :: undef :: undef :: undef :: undef :: undef :: undef :: undef :: undef :: undef :: undef :: undef :: undef :: undef :: undef :: undef :: []).toArray, []⟩ ∧ RG2 bx x0 x1 n5 n6 n9 n8 bS bT w0 D u6 u7 u8 u9 u10 u11 u12 u13 u14 u15 u16 u17 u18 u19 u20 u21 u22 u23 u24 u25 u26 u27 u28 u29 u30 u5 w) (by kernel_rfl) (by kernel_rfl) ?_ ?_ ?_
    · exact ⟨_, _, _, _, _, _, _, _, _, _, _, _, _, _, _, _, _, _, _, _, _, _, _, _, _, _, rfl, ⟨(Below.refl _ _).drew, fun h => (by cases h), fun h => (by cases h), fun h => (by cases h), fun h => (by cases h), fun h => (by cases h), fun h => (by cases h), fun h => (by cases h), fun h => (by cases h), fun h => (by cases h), fun h => (by cases h), fun h => (by cases h), fun h => (by cases h), fun h => (by cases h), fun h => (by cases h), fun h => (by cases h), fun h => (by cases h), fun h => (by cases h), fun h => (by cases h), fun h => (by cases h), fun h => (by cases h), fun h => (by cases h), fun h => (by cases h), fun h => (by cases h), fun h => (by cases h), fun h => (by cases h), fun h => (by cases h), fun h => (by cases h)⟩⟩
    · rintro D a w ⟨u6, u7, u8, u9, u10, u11, u12, u13, u14, u15, u16, u17, u18, u19, u20, u21, u22, u23, u24, u25, u26, u27, u28, u29, u30, u5, rfl, hR⟩ hall
      obtain rfl := hR.h0 (hall 0 (by decide))
      obtain rfl := hR.h1 (hall 1 (by decide))
      obtain rfl := hR.h2 (hall 2 (by decide))
      obtain rfl := hR.h3 (hall 3 (by decide))
      obtain rfl := hR.h4 (hall 4 (by decide))
      obtain rfl := hR.h5 (hall 5 (by decide))
      obtain rfl := hR.h6 (hall 6 (by decide))
      obtain rfl := hR.h7 (hall 7 (by decide))
      obtain rfl := hR.h8 (hall 8 (by decide))
      obtain rfl := hR.h9 (hall 9 (by decide))
      obtain rfl := hR.h10 (hall 10 (by decide))
      obtain rfl := hR.h11 (hall 11 (by decide))
      obtain rfl := hR.h12 (hall 12 (by decide))
      obtain rfl := hR.h13 (hall 13 (by decide))
      obtain rfl := hR.h14 (hall 14 (by decide))
      obtain rfl := hR.h15 (hall 15 (by decide))
      obtain rfl := hR.h16 (hall 16 (by decide))
      obtain rfl := hR.h17 (hall 17 (by decide))
      obtain rfl := hR.h18 (hall 18 (by decide))
      obtain rfl := hR.h19 (hall 19 (by decide))
      obtain rfl := hR.h20 (hall 20 (by decide))
      obtain rfl := hR.h21 (hall 21 (by decide))
      obtain rfl := hR.h22 (hall 22 (by decide))
      obtain rfl := hR.h23 (hall 23 (by decide))
      obtain rfl := hR.h24 (hall 24 (by decide))
      obtain ⟨p, rfl, hp, hv⟩ := hR.p5 (hall 25 (by decide))
      rw [if_pos (hall 26 (by decide))] at hv
      go_wp2_with fail
      go_meet
      exact ⟨p, rfl, hp, hv, hR.below⟩
    · refine RegInv.Steps.cons (fun D a w hI hD hdep K hK => ?_) ?_
      · obtain ⟨u6, u7, u8, u9, u10, u11, u12, u13, u14, u15, u16, u17, u18, u19, u20, u21, u22, u23, u24, u25, u26, u27, u28, u29, u30, u5, rfl, hR⟩ := hI
        rw [if_pos (by rfl)]
        go_simp
        exact hK.out _ _ ⟨_, _, _, _, _, _, _, _, _, _, _, _, _, _, _, _, _, _, _, _, _, _, _, _, _, _, rfl, ⟨hR.below, fun _ => rfl, hR.h1, hR.h2, hR.h3, hR.h4, hR.h5, hR.h6, hR.h7, hR.h8, hR.h9, hR.h10, hR.h11, hR.h12, hR.h13, hR.h14, hR.h15, hR.h16, hR.h17, hR.h18, hR.h19, hR.h20, hR.h21, hR.h22, hR.h23, hR.h24, hR.p5, hR.d26⟩⟩
      refine RegInv.Steps.cons (fun D a w hI hD hdep K hK => ?_) ?_
      · obtain ⟨u6, u7, u8, u9, u10, u11, u12, u13, u14, u15, u16, u17, u18, u19, u20, u21, u22, u23, u24, u25, u26, u27, u28, u29, u30, u5, rfl, hR⟩ := hI
        obtain ⟨ga, gb⟩ := (GL.out.below hR.below HS.out).c5
        rw [if_pos (by rfl)]
        go_simp
        exact hK.out _ _ ⟨_, _, _, _, _, _, _, _, _, _, _, _, _, _, _, _, _, _, _, _, _, _, _, _, _, _, rfl, ⟨hR.below, hR.h0, fun _ => rfl, hR.h2, hR.h3, hR.h4, hR.h5, hR.h6, hR.h7, hR.h8, hR.h9, hR.h10, hR.h11, hR.h12, hR.h13, hR.h14, hR.h15, hR.h16, hR.h17, hR.h18, hR.h19, hR.h20, hR.h21, hR.h22, hR.h23, hR.h24, hR.p5, hR.d26⟩⟩
      refine RegInv.Steps.cons (fun D a w hI hD hdep K hK => ?_) ?_
      · obtain ⟨u6, u7, u8, u9, u10, u11, u12, u13, u14, u15, u16, u17, u18, u19, u20, u21, u22, u23, u24, u25, u26, u27, u28, u29, u30, u5, rfl, hR⟩ := hI
        rw [if_pos (by rfl)]
        go_simp
        exact hK.out _ _ ⟨_, _, _, _, _, _, _, _, _, _, _, _, _, _, _, _, _, _, _, _, _, _, _, _, _, _, rfl, ⟨hR.below, hR.h0, hR.h1, fun _ => rfl, hR.h3, hR.h4, hR.h5, hR.h6, hR.h7, hR.h8, hR.h9, hR.h10, hR.h11, hR.h12, hR.h13, hR.h14, hR.h15, hR.h16, hR.h17, hR.h18, hR.h19, hR.h20, hR.h21, hR.h22, hR.h23, hR.h24, hR.p5, hR.d26⟩⟩
      refine RegInv.Steps.cons (fun D a w hI hD hdep K hK => ?_) ?_
      · obtain ⟨u6, u7, u8, u9, u10, u11, u12, u13, u14, u15, u16, u17, u18, u19, u20, u21, u22, u23, u24, u25, u26, u27, u28, u29, u30, u5, rfl, hR⟩ := hI
        have d2 : D 2 = true := hdep ⟨2, .data⟩ (by simp) rfl
        obtain rfl := hR.h2 d2
        have cx := (HX.out.below hR.below HX.out.lt).cell 0
        simp only [List.getElem?_cons_zero, List.getElem?_cons_succ] at cx
        rw [if_pos (by rfl)]
        go_simp
        exact hK.out _ _ ⟨_, _, _, _, _, _, _, _, _, _, _, _, _, _, _, _, _, _, _, _, _, _, _, _, _, _, rfl, ⟨hR.below, hR.h0, hR.h1, hR.h2, fun _ => rfl, hR.h4, hR.h5, hR.h6, hR.h7, hR.h8, hR.h9, hR.h10, hR.h11, hR.h12, hR.h13, hR.h14, hR.h15, hR.h16, hR.h17, hR.h18, hR.h19, hR.h20, hR.h21, hR.h22, hR.h23, hR.h24, hR.p5, hR.d26⟩⟩
      refine RegInv.Steps.cons (fun D a w hI hD hdep K hK => ?_) ?_
      · obtain ⟨u6, u7, u8, u9, u10, u11, u12, u13, u14, u15, u16, u17, u18, u19, u20, u21, u22, u23, u24, u25, u26, u27, u28, u29, u30, u5, rfl, hR⟩ := hI
        have d0 : D 0 = true := hdep ⟨0, .data⟩ (by simp) rfl
        obtain rfl := hR.h0 d0
        have d1 : D 1 = true := hdep ⟨1, .data⟩ (by simp) rfl
        obtain rfl := hR.h1 d1
        have d3 : D 3 = true := hdep ⟨3, .data⟩ (by simp) rfl
        obtain rfl := hR.h3 d3
        rw [if_pos (by rfl)]
        go_simp
        with_reducible refine ((G5.out _)).mono ?_
        rintro e w9 ⟨rfl, hb9⟩
        exact hK.out _ _ ⟨_, _, _, _, _, _, _, _, _, _, _, _, _, _, _, _, _, _, _, _, _, _, _, _, _, _, rfl, ⟨hR.below.trans (hb9.mono hR.below.size), hR.h0, hR.h1, hR.h2, hR.h3, fun _ => rfl, hR.h5, hR.h6, hR.h7, hR.h8, hR.h9, hR.h10, hR.h11, hR.h12, hR.h13, hR.h14, hR.h15, hR.h16, hR.h17, hR.h18, hR.h19, hR.h20, hR.h21, hR.h22, hR.h23, hR.h24, fun hd => let ⟨b, e, l, k⟩ := hR.p5 hd; ⟨b, e, l, k.below' hb9⟩, hR.d26⟩⟩
      refine RegInv.Steps.cons (fun D a w hI hD hdep K hK => ?_) ?_
      · obtain ⟨u6, u7, u8, u9, u10, u11, u12, u13, u14, u15, u16, u17, u18, u19, u20, u21, u22, u23, u24, u25, u26, u27, u28, u29, u30, u5, rfl, hR⟩ := hI
        have d4 : D 4 = true := hdep ⟨4, .data⟩ (by simp) rfl
        obtain rfl := hR.h4 d4
        have hb := HC.out.1
        rw [if_pos (by rfl)]
        go_simp
        exact hK.out _ _ ⟨_, _, _, _, _, _, _, _, _, _, _, _, _, _, _, _, _, _, _, _, _, _, _, _, _, _, rfl, ⟨hR.below, hR.h0, hR.h1, hR.h2, hR.h3, hR.h4, fun _ => rfl, hR.h6, hR.h7, hR.h8, hR.h9, hR.h10, hR.h11, hR.h12, hR.h13, hR.h14, hR.h15, hR.h16, hR.h17, hR.h18, hR.h19, hR.h20, hR.h21, hR.h22, hR.h23, hR.h24, hR.p5, hR.d26⟩⟩
      refine RegInv.Steps.cons (fun D a w hI hD hdep K hK => ?_) ?_
      · obtain ⟨u6, u7, u8, u9, u10, u11, u12, u13, u14, u15, u16, u17, u18, u19, u20, u21, u22, u23, u24, u25, u26, u27, u28, u29, u30, u5, rfl, hR⟩ := hI
        rw [if_pos (by rfl)]
        go_simp
        exact hK.out _ _ ⟨_, _, _, _, _, _, _, _, _, _, _, _, _, _, _, _, _, _, _, _, _, _, _, _, _, _, rfl, ⟨hR.below, hR.h0, hR.h1, hR.h2, hR.h3, hR.h4, hR.h5, fun _ => rfl, hR.h7, hR.h8, hR.h9, hR.h10, hR.h11, hR.h12, hR.h13, hR.h14, hR.h15, hR.h16, hR.h17, hR.h18, hR.h19, hR.h20, hR.h21, hR.h22, hR.h23, hR.h24, hR.p5, hR.d26⟩⟩
      refine RegInv.Steps.cons (fun D a w hI hD hdep K hK => ?_) ?_
      · obtain ⟨u6, u7, u8, u9, u10, u11, u12, u13, u14, u15, u16, u17, u18, u19, u20, u21, u22, u23, u24, u25, u26, u27, u28, u29, u30, u5, rfl, hR⟩ := hI
        obtain ⟨ga, gb⟩ := (GL.out.below hR.below HS.out).c6
        rw [if_pos (by rfl)]
        go_simp
        exact hK.out _ _ ⟨_, _, _, _, _, _, _, _, _, _, _, _, _, _, _, _, _, _, _, _, _, _, _, _, _, _, rfl, ⟨hR.below, hR.h0, hR.h1, hR.h2, hR.h3, hR.h4, hR.h5, hR.h6, fun _ => rfl, hR.h8, hR.h9, hR.h10, hR.h11, hR.h12, hR.h13, hR.h14, hR.h15, hR.h16, hR.h17, hR.h18, hR.h19, hR.h20, hR.h21, hR.h22, hR.h23, hR.h24, hR.p5, hR.d26⟩⟩
      refine RegInv.Steps.cons (fun D a w hI hD hdep K hK => ?_) ?_
      · obtain ⟨u6, u7, u8, u9, u10, u11, u12, u13, u14, u15, u16, u17, u18, u19, u20, u21, u22, u23, u24, u25, u26, u27, u28, u29, u30, u5, rfl, hR⟩ := hI
        rw [if_pos (by rfl)]
        go_simp
        exact hK.out _ _ ⟨_, _, _, _, _, _, _, _, _, _, _, _, _, _, _, _, _, _, _, _, _, _, _, _, _, _, rfl, ⟨hR.below, hR.h0, hR.h1, hR.h2, hR.h3, hR.h4, hR.h5, hR.h6, hR.h7, fun _ => rfl, hR.h9, hR.h10, hR.h11, hR.h12, hR.h13, hR.h14, hR.h15, hR.h16, hR.h17, hR.h18, hR.h19, hR.h20, hR.h21, hR.h22, hR.h23, hR.h24, hR.p5, hR.d26⟩⟩
      refine RegInv.Steps.cons (fun D a w hI hD hdep K hK => ?_) ?_
      · obtain ⟨u6, u7, u8, u9, u10, u11, u12, u13, u14, u15, u16, u17, u18, u19, u20, u21, u22, u23, u24, u25, u26, u27, u28, u29, u30, u5, rfl, hR⟩ := hI
        have d8 : D 8 = true := hdep ⟨8, .data⟩ (by simp) rfl
        obtain rfl := hR.h8 d8
        have cx := (HX.out.below hR.below HX.out.lt).cell 0
        simp only [List.getElem?_cons_zero, List.getElem?_cons_succ] at cx
        rw [if_pos (by rfl)]
        go_simp
        exact hK.out _ _ ⟨_, _, _, _, _, _, _, _, _, _, _, _, _, _, _, _, _, _, _, _, _, _, _, _, _, _, rfl, ⟨hR.below, hR.h0, hR.h1, hR.h2, hR.h3, hR.h4, hR.h5, hR.h6, hR.h7, hR.h8, fun _ => rfl, hR.h10, hR.h11, hR.h12, hR.h13, hR.h14, hR.h15, hR.h16, hR.h17, hR.h18, hR.h19, hR.h20, hR.h21, hR.h22, hR.h23, hR.h24, hR.p5, hR.d26⟩⟩
      refine RegInv.Steps.cons (fun D a w hI hD hdep K hK => ?_) ?_
      · obtain ⟨u6, u7, u8, u9, u10, u11, u12, u13, u14, u15, u16, u17, u18, u19, u20, u21, u22, u23, u24, u25, u26, u27, u28, u29, u30, u5, rfl, hR⟩ := hI
        have d6 : D 6 = true := hdep ⟨6, .data⟩ (by simp) rfl
        obtain rfl := hR.h6 d6
        have d7 : D 7 = true := hdep ⟨7, .data⟩ (by simp) rfl
        obtain rfl := hR.h7 d7
        have d9 : D 9 = true := hdep ⟨9, .data⟩ (by simp) rfl
        obtain rfl := hR.h9 d9
        rw [if_pos (by rfl)]
        go_simp
        with_reducible refine ((G6.out _)).mono ?_
        rintro e w9 ⟨rfl, hb9⟩
        exact hK.out _ _ ⟨_, _, _, _, _, _, _, _, _, _, _, _, _, _, _, _, _, _, _, _, _, _, _, _, _, _, rfl, ⟨hR.below.trans (hb9.mono hR.below.size), hR.h0, hR.h1, hR.h2, hR.h3, hR.h4, hR.h5, hR.h6, hR.h7, hR.h8, hR.h9, fun _ => rfl, hR.h11, hR.h12, hR.h13, hR.h14, hR.h15, hR.h16, hR.h17, hR.h18, hR.h19, hR.h20, hR.h21, hR.h22, hR.h23, hR.h24, fun hd => let ⟨b, e, l, k⟩ := hR.p5 hd; ⟨b, e, l, k.below' hb9⟩, hR.d26⟩⟩
      refine RegInv.Steps.cons (fun D a w hI hD hdep K hK => ?_) ?_
      · obtain ⟨u6, u7, u8, u9, u10, u11, u12, u13, u14, u15, u16, u17, u18, u19, u20, u21, u22, u23, u24, u25, u26, u27, u28, u29, u30, u5, rfl, hR⟩ := hI
        have d10 : D 10 = true := hdep ⟨10, .data⟩ (by simp) rfl
        obtain rfl := hR.h10 d10
        have hb := HC.out.2.1
        rw [if_pos (by rfl)]
        go_simp
        exact hK.out _ _ ⟨_, _, _, _, _, _, _, _, _, _, _, _, _, _, _, _, _, _, _, _, _, _, _, _, _, _, rfl, ⟨hR.below, hR.h0, hR.h1, hR.h2, hR.h3, hR.h4, hR.h5, hR.h6, hR.h7, hR.h8, hR.h9, hR.h10, fun _ => rfl, hR.h12, hR.h13, hR.h14, hR.h15, hR.h16, hR.h17, hR.h18, hR.h19, hR.h20, hR.h21, hR.h22, hR.h23, hR.h24, hR.p5, hR.d26⟩⟩
      refine RegInv.Steps.cons (fun D a w hI hD hdep K hK => ?_) ?_
      · obtain ⟨u6, u7, u8, u9, u10, u11, u12, u13, u14, u15, u16, u17, u18, u19, u20, u21, u22, u23, u24, u25, u26, u27, u28, u29, u30, u5, rfl, hR⟩ := hI
        rw [if_pos (by rfl)]
        go_simp
        exact hK.out _ _ ⟨_, _, _, _, _, _, _, _, _, _, _, _, _, _, _, _, _, _, _, _, _, _, _, _, _, _, rfl, ⟨hR.below, hR.h0, hR.h1, hR.h2, hR.h3, hR.h4, hR.h5, hR.h6, hR.h7, hR.h8, hR.h9, hR.h10, hR.h11, fun _ => rfl, hR.h13, hR.h14, hR.h15, hR.h16, hR.h17, hR.h18, hR.h19, hR.h20, hR.h21, hR.h22, hR.h23, hR.h24, hR.p5, hR.d26⟩⟩
      refine RegInv.Steps.cons (fun D a w hI hD hdep K hK => ?_) ?_
      · obtain ⟨u6, u7, u8, u9, u10, u11, u12, u13, u14, u15, u16, u17, u18, u19, u20, u21, u22, u23, u24, u25, u26, u27, u28, u29, u30, u5, rfl, hR⟩ := hI
        obtain ⟨ga, gb⟩ := (GL.out.below hR.below HS.out).c9
        rw [if_pos (by rfl)]
        go_simp
        exact hK.out _ _ ⟨_, _, _, _, _, _, _, _, _, _, _, _, _, _, _, _, _, _, _, _, _, _, _, _, _, _, rfl, ⟨hR.below, hR.h0, hR.h1, hR.h2, hR.h3, hR.h4, hR.h5, hR.h6, hR.h7, hR.h8, hR.h9, hR.h10, hR.h11, hR.h12, fun _ => rfl, hR.h14, hR.h15, hR.h16, hR.h17, hR.h18, hR.h19, hR.h20, hR.h21, hR.h22, hR.h23, hR.h24, hR.p5, hR.d26⟩⟩
      refine RegInv.Steps.cons (fun D a w hI hD hdep K hK => ?_) ?_
      · obtain ⟨u6, u7, u8, u9, u10, u11, u12, u13, u14, u15, u16, u17, u18, u19, u20, u21, u22, u23, u24, u25, u26, u27, u28, u29, u30, u5, rfl, hR⟩ := hI
        rw [if_pos (by rfl)]
        go_simp
        exact hK.out _ _ ⟨_, _, _, _, _, _, _, _, _, _, _, _, _, _, _, _, _, _, _, _, _, _, _, _, _, _, rfl, ⟨hR.below, hR.h0, hR.h1, hR.h2, hR.h3, hR.h4, hR.h5, hR.h6, hR.h7, hR.h8, hR.h9, hR.h10, hR.h11, hR.h12, hR.h13, fun _ => rfl, hR.h15, hR.h16, hR.h17, hR.h18, hR.h19, hR.h20, hR.h21, hR.h22, hR.h23, hR.h24, hR.p5, hR.d26⟩⟩
      refine RegInv.Steps.cons (fun D a w hI hD hdep K hK => ?_) ?_
      · obtain ⟨u6, u7, u8, u9, u10, u11, u12, u13, u14, u15, u16, u17, u18, u19, u20, u21, u22, u23, u24, u25, u26, u27, u28, u29, u30, u5, rfl, hR⟩ := hI
        have d14 : D 14 = true := hdep ⟨14, .data⟩ (by simp) rfl
        obtain rfl := hR.h14 d14
        have cx := (HX.out.below hR.below HX.out.lt).cell 1
        simp only [List.getElem?_cons_zero, List.getElem?_cons_succ] at cx
        rw [if_pos (by rfl)]
        go_simp
        exact hK.out _ _ ⟨_, _, _, _, _, _, _, _, _, _, _, _, _, _, _, _, _, _, _, _, _, _, _, _, _, _, rfl, ⟨hR.below, hR.h0, hR.h1, hR.h2, hR.h3, hR.h4, hR.h5, hR.h6, hR.h7, hR.h8, hR.h9, hR.h10, hR.h11, hR.h12, hR.h13, hR.h14, fun _ => rfl, hR.h16, hR.h17, hR.h18, hR.h19, hR.h20, hR.h21, hR.h22, hR.h23, hR.h24, hR.p5, hR.d26⟩⟩
      refine RegInv.Steps.cons (fun D a w hI hD hdep K hK => ?_) ?_
      · obtain ⟨u6, u7, u8, u9, u10, u11, u12, u13, u14, u15, u16, u17, u18, u19, u20, u21, u22, u23, u24, u25, u26, u27, u28, u29, u30, u5, rfl, hR⟩ := hI
        have d12 : D 12 = true := hdep ⟨12, .data⟩ (by simp) rfl
        obtain rfl := hR.h12 d12
        have d13 : D 13 = true := hdep ⟨13, .data⟩ (by simp) rfl
        obtain rfl := hR.h13 d13
        have d15 : D 15 = true := hdep ⟨15, .data⟩ (by simp) rfl
        obtain rfl := hR.h15 d15
        rw [if_pos (by rfl)]
        go_simp
        with_reducible refine ((G9.out _)).mono ?_
        rintro e w9 ⟨rfl, hb9⟩
        exact hK.out _ _ ⟨_, _, _, _, _, _, _, _, _, _, _, _, _, _, _, _, _, _, _, _, _, _, _, _, _, _, rfl, ⟨hR.below.trans (hb9.mono hR.below.size), hR.h0, hR.h1, hR.h2, hR.h3, hR.h4, hR.h5, hR.h6, hR.h7, hR.h8, hR.h9, hR.h10, hR.h11, hR.h12, hR.h13, hR.h14, hR.h15, fun _ => rfl, hR.h17, hR.h18, hR.h19, hR.h20, hR.h21, hR.h22, hR.h23, hR.h24, fun hd => let ⟨b, e, l, k⟩ := hR.p5 hd; ⟨b, e, l, k.below' hb9⟩, hR.d26⟩⟩
      refine RegInv.Steps.cons (fun D a w hI hD hdep K hK => ?_) ?_
      · obtain ⟨u6, u7, u8, u9, u10, u11, u12, u13, u14, u15, u16, u17, u18, u19, u20, u21, u22, u23, u24, u25, u26, u27, u28, u29, u30, u5, rfl, hR⟩ := hI
        have d16 : D 16 = true := hdep ⟨16, .data⟩ (by simp) rfl
        obtain rfl := hR.h16 d16
        have hb := HC.out.2.2.1
        rw [if_pos (by rfl)]
        go_simp
        exact hK.out _ _ ⟨_, _, _, _, _, _, _, _, _, _, _, _, _, _, _, _, _, _, _, _, _, _, _, _, _, _, rfl, ⟨hR.below, hR.h0, hR.h1, hR.h2, hR.h3, hR.h4, hR.h5, hR.h6, hR.h7, hR.h8, hR.h9, hR.h10, hR.h11, hR.h12, hR.h13, hR.h14, hR.h15, hR.h16, fun _ => rfl, hR.h18, hR.h19, hR.h20, hR.h21, hR.h22, hR.h23, hR.h24, hR.p5, hR.d26⟩⟩
      refine RegInv.Steps.cons (fun D a w hI hD hdep K hK => ?_) ?_
      · obtain ⟨u6, u7, u8, u9, u10, u11, u12, u13, u14, u15, u16, u17, u18, u19, u20, u21, u22, u23, u24, u25, u26, u27, u28, u29, u30, u5, rfl, hR⟩ := hI
        rw [if_pos (by rfl)]
        go_simp
        exact hK.out _ _ ⟨_, _, _, _, _, _, _, _, _, _, _, _, _, _, _, _, _, _, _, _, _, _, _, _, _, _, rfl, ⟨hR.below, hR.h0, hR.h1, hR.h2, hR.h3, hR.h4, hR.h5, hR.h6, hR.h7, hR.h8, hR.h9, hR.h10, hR.h11, hR.h12, hR.h13, hR.h14, hR.h15, hR.h16, hR.h17, fun _ => rfl, hR.h19, hR.h20, hR.h21, hR.h22, hR.h23, hR.h24, hR.p5, hR.d26⟩⟩
      refine RegInv.Steps.cons (fun D a w hI hD hdep K hK => ?_) ?_
      · obtain ⟨u6, u7, u8, u9, u10, u11, u12, u13, u14, u15, u16, u17, u18, u19, u20, u21, u22, u23, u24, u25, u26, u27, u28, u29, u30, u5, rfl, hR⟩ := hI
        obtain ⟨ga, gb⟩ := (GL.out.below hR.below HS.out).c8
        rw [if_pos (by rfl)]
        go_simp
        exact hK.out _ _ ⟨_, _, _, _, _, _, _, _, _, _, _, _, _, _, _, _, _, _, _, _, _, _, _, _, _, _, rfl, ⟨hR.below, hR.h0, hR.h1, hR.h2, hR.h3, hR.h4, hR.h5, hR.h6, hR.h7, hR.h8, hR.h9, hR.h10, hR.h11, hR.h12, hR.h13, hR.h14, hR.h15, hR.h16, hR.h17, hR.h18, fun _ => rfl, hR.h20, hR.h21, hR.h22, hR.h23, hR.h24, hR.p5, hR.d26⟩⟩
      refine RegInv.Steps.cons (fun D a w hI hD hdep K hK => ?_) ?_
      · obtain ⟨u6, u7, u8, u9, u10, u11, u12, u13, u14, u15, u16, u17, u18, u19, u20, u21, u22, u23, u24, u25, u26, u27, u28, u29, u30, u5, rfl, hR⟩ := hI
        rw [if_pos (by rfl)]
        go_simp
        exact hK.out _ _ ⟨_, _, _, _, _, _, _, _, _, _, _, _, _, _, _, _, _, _, _, _, _, _, _, _, _, _, rfl, ⟨hR.below, hR.h0, hR.h1, hR.h2, hR.h3, hR.h4, hR.h5, hR.h6, hR.h7, hR.h8, hR.h9, hR.h10, hR.h11, hR.h12, hR.h13, hR.h14, hR.h15, hR.h16, hR.h17, hR.h18, hR.h19, fun _ => rfl, hR.h21, hR.h22, hR.h23, hR.h24, hR.p5, hR.d26⟩⟩
      refine RegInv.Steps.cons (fun D a w hI hD hdep K hK => ?_) ?_
      · obtain ⟨u6, u7, u8, u9, u10, u11, u12, u13, u14, u15, u16, u17, u18, u19, u20, u21, u22, u23, u24, u25, u26, u27, u28, u29, u30, u5, rfl, hR⟩ := hI
        have d20 : D 20 = true := hdep ⟨20, .data⟩ (by simp) rfl
        obtain rfl := hR.h20 d20
        have cx := (HX.out.below hR.below HX.out.lt).cell 1
        simp only [List.getElem?_cons_zero, List.getElem?_cons_succ] at cx
        rw [if_pos (by rfl)]
        go_simp
        exact hK.out _ _ ⟨_, _, _, _, _, _, _, _, _, _, _, _, _, _, _, _, _, _, _, _, _, _, _, _, _, _, rfl, ⟨hR.below, hR.h0, hR.h1, hR.h2, hR.h3, hR.h4, hR.h5, hR.h6, hR.h7, hR.h8, hR.h9, hR.h10, hR.h11, hR.h12, hR.h13, hR.h14, hR.h15, hR.h16, hR.h17, hR.h18, hR.h19, hR.h20, fun _ => rfl, hR.h22, hR.h23, hR.h24, hR.p5, hR.d26⟩⟩
      refine RegInv.Steps.cons (fun D a w hI hD hdep K hK => ?_) ?_
      · obtain ⟨u6, u7, u8, u9, u10, u11, u12, u13, u14, u15, u16, u17, u18, u19, u20, u21, u22, u23, u24, u25, u26, u27, u28, u29, u30, u5, rfl, hR⟩ := hI
        have d18 : D 18 = true := hdep ⟨18, .data⟩ (by simp) rfl
        obtain rfl := hR.h18 d18
        have d19 : D 19 = true := hdep ⟨19, .data⟩ (by simp) rfl
        obtain rfl := hR.h19 d19
        have d21 : D 21 = true := hdep ⟨21, .data⟩ (by simp) rfl
        obtain rfl := hR.h21 d21
        rw [if_pos (by rfl)]
        go_simp
        with_reducible refine ((G8.out _)).mono ?_
        rintro e w9 ⟨rfl, hb9⟩
        exact hK.out _ _ ⟨_, _, _, _, _, _, _, _, _, _, _, _, _, _, _, _, _, _, _, _, _, _, _, _, _, _, rfl, ⟨hR.below.trans (hb9.mono hR.below.size), hR.h0, hR.h1, hR.h2, hR.h3, hR.h4, hR.h5, hR.h6, hR.h7, hR.h8, hR.h9, hR.h10, hR.h11, hR.h12, hR.h13, hR.h14, hR.h15, hR.h16, hR.h17, hR.h18, hR.h19, hR.h20, hR.h21, fun _ => rfl, hR.h23, hR.h24, fun hd => let ⟨b, e, l, k⟩ := hR.p5 hd; ⟨b, e, l, k.below' hb9⟩, hR.d26⟩⟩
      refine RegInv.Steps.cons (fun D a w hI hD hdep K hK => ?_) ?_
      · obtain ⟨u6, u7, u8, u9, u10, u11, u12, u13, u14, u15, u16, u17, u18, u19, u20, u21, u22, u23, u24, u25, u26, u27, u28, u29, u30, u5, rfl, hR⟩ := hI
        have d22 : D 22 = true := hdep ⟨22, .data⟩ (by simp) rfl
        obtain rfl := hR.h22 d22
        have hb := HC.out.2.2.2.1
        rw [if_pos (by rfl)]
        go_simp
        exact hK.out _ _ ⟨_, _, _, _, _, _, _, _, _, _, _, _, _, _, _, _, _, _, _, _, _, _, _, _, _, _, rfl, ⟨hR.below, hR.h0, hR.h1, hR.h2, hR.h3, hR.h4, hR.h5, hR.h6, hR.h7, hR.h8, hR.h9, hR.h10, hR.h11, hR.h12, hR.h13, hR.h14, hR.h15, hR.h16, hR.h17, hR.h18, hR.h19, hR.h20, hR.h21, hR.h22, fun _ => rfl, hR.h24, hR.p5, hR.d26⟩⟩
      refine RegInv.Steps.cons (fun D a w hI hD hdep K hK => ?_) ?_
      · obtain ⟨u6, u7, u8, u9, u10, u11, u12, u13, u14, u15, u16, u17, u18, u19, u20, u21, u22, u23, u24, u25, u26, u27, u28, u29, u30, u5, rfl, hR⟩ := hI
        have d5 : D 5 = true := hdep ⟨5, .data⟩ (by simp) rfl
        obtain rfl := hR.h5 d5
        have d11 : D 11 = true := hdep ⟨11, .data⟩ (by simp) rfl
        obtain rfl := hR.h11 d11
        have d17 : D 17 = true := hdep ⟨17, .data⟩ (by simp) rfl
        obtain rfl := hR.h17 d17
        have d23 : D 23 = true := hdep ⟨23, .data⟩ (by simp) rfl
        obtain rfl := hR.h23 d23
        rw [if_pos (by rfl)]
        go_simp
        exact hK.out _ _ ⟨_, _, _, _, _, _, _, _, _, _, _, _, _, _, _, _, _, _, _, _, _, _, _, _, _, _, rfl, ⟨hR.below, hR.h0, hR.h1, hR.h2, hR.h3, hR.h4, hR.h5, hR.h6, hR.h7, hR.h8, hR.h9, hR.h10, hR.h11, hR.h12, hR.h13, hR.h14, hR.h15, hR.h16, hR.h17, hR.h18, hR.h19, hR.h20, hR.h21, hR.h22, hR.h23, fun _ => rfl, hR.p5, hR.d26⟩⟩
      refine RegInv.Steps.cons (fun D a w hI hD hdep K hK => ?_) ?_
      · obtain ⟨u6, u7, u8, u9, u10, u11, u12, u13, u14, u15, u16, u17, u18, u19, u20, u21, u22, u23, u24, u25, u26, u27, u28, u29, u30, u5, rfl, hR⟩ := hI
        rw [if_pos (by rfl)]
        go_simp
        have d26 : D 26 = false := by cases hc : D 26 with | false => rfl | true => (have := hR.d26 hc; rw [hD] at this; cases this)
        exact hK.out _ _ ⟨_, _, _, _, _, _, _, _, _, _, _, _, _, _, _, _, _, _, _, _, _, _, _, _, _, _, rfl, ⟨hR.below.alloc hR.below.size _, hR.h0, hR.h1, hR.h2, hR.h3, hR.h4, hR.h5, hR.h6, hR.h7, hR.h8, hR.h9, hR.h10, hR.h11, hR.h12, hR.h13, hR.h14, hR.h15, hR.h16, hR.h17, hR.h18, hR.h19, hR.h20, hR.h21, hR.h22, hR.h23, hR.h24, fun _ => ⟨_, rfl, hR.below.size, by rw [RegInv.upd_ne D (by decide), d26]; exact heap_new _ _⟩, fun _ => rfl⟩⟩
      refine RegInv.Steps.cons (fun D a w hI hD hdep K hK => ?_) ?_
      · obtain ⟨u6, u7, u8, u9, u10, u11, u12, u13, u14, u15, u16, u17, u18, u19, u20, u21, u22, u23, u24, u25, u26, u27, u28, u29, u30, u5, rfl, hR⟩ := hI
        have d24 : D 24 = true := hdep ⟨24, .data⟩ (by simp) rfl
        obtain rfl := hR.h24 d24
        have d25 : D 25 = true := hdep ⟨25, .data⟩ (by simp) rfl
        obtain ⟨p, rfl, hp, hv⟩ := hR.p5 d25
        rw [if_pos (by rfl)]
        refine wp_store_row 24 (.tmp 5) (.tmp 30) rfl p _ rfl rfl 24 _ hv (by kernel_rfl) (by split <;> rfl) (by kernel_rfl) ?_
        exact hK.out _ _ ⟨_, _, _, _, _, _, _, _, _, _, _, _, _, _, _, _, _, _, _, _, _, _, _, _, _, _, rfl, ⟨below_setRow hR.below hp _, hR.h0, hR.h1, hR.h2, hR.h3, hR.h4, hR.h5, hR.h6, hR.h7, hR.h8, hR.h9, hR.h10, hR.h11, hR.h12, hR.h13, hR.h14, hR.h15, hR.h16, hR.h17, hR.h18, hR.h19, hR.h20, hR.h21, hR.h22, hR.h23, hR.h24, fun _ => ⟨p, rfl, hp, by rw [RegInv.upd_at, if_pos rfl]; exact setRow_heap _ p _ _ 24 (0, 0) hv⟩, fun _ => d25⟩⟩
      exact RegInv.Steps.nil

  case rest =>
    obtain ⟨b5, rfl, hb5, hv5, hbw⟩ := hcut
    go_upto_region 3 with fail
    go_cut [] from 31 to 51 (fun wx => HoldsV 24 wx b5 [.int .i64 (n0 : Int), .int .i64 (n1 : Int), .int .i64 (n2 : Int), .int .i64 0, .int .i64 0, .int .u32 (n9 : Int), .int .i64 0, .bool bS, .bool bT, .int .i64 0, .int .u32 (n8 : Int)] ∧ Below w0.heap.size w0 wx)
    case first =>
      refine RegInv.wp_region_steps (I := fun D a w => ∃ u31 u32 u33 u34 u35 u36 u37 u38 u39 u40 u41 u42 u43 u44 u45 u46 u47 u48 u49 u50 u51, a = ⟨(.agg #[.int .u64 (x0 : Int), .int .u64 (x1 : Int), .int .u64 (x2 : Int)] :: .pointer (some ⟨bx, 0, none⟩) :: .pointer (some ⟨br, 0, none⟩) :: .int .i64 0 :: .func (.func 53) #[] #[] :: .pointer (some ⟨b5, 0, none⟩) :: u6 :: u7 :: u8 :: u9 :: u10 :: u11 :: u12 :: u13 :: u14 :: u15 :: u16 :: u17 :: u18 :: u19 :: u20 :: u21 :: u22 :: u23 :: u24 :: u25 :: u26 :: u27 :: u28 :: u29 :: u30 :: u31 :: u32 :: u33 :: u34 :: u35 :: u36 :: u37 :: u38 :: u39 :: u40 :: u41 :: u42 :: u43 :: u44 :: u45 :: u46 :: u47 :: u48 :: u49 :: u50 :: u51 :: undef :: undef :: undef :: undef :: undef :: undef :: undef :: undef :: undef :: undef :: undef :: undef :: undef :: undef :: undef :: undef :: undef :: undef :: undef :: undef :: undef :: undef :: undef :: undef :: undef :: undef :: undef :: undef :: undef :: undef :: undef :: undef :: undef :: undef :: undef :: undef :: undef :: undef :: undef :: undef :: undef :: undef :: undef :: undef :: undef :: undef :: undef :: undef :: undef :: undef :: undef :: undef :: undef :: undef :: undef :: undef :: []).toArray, []⟩ ∧ RG3 bx b5 x0 n9 n8 n0 n1 n2 n3 n4 n7 bS bT w0 D u31 u32 u33 u34 u35 u36 u37 u38 u39 u40 u41 u42 u43 u44 u45 u46 u47 u48 u49 u50 u51 w) (by kernel_rfl) (by kernel_rfl) ?_ ?_ ?_
      · exact ⟨_, _, _, _, _, _, _, _, _, _, _, _, _, _, _, _, _, _, _, _, _, rfl, ⟨hbw.drew, fun h => (by cases h), fun h => (by cases h), fun h => (by cases h), fun h => (by cases h), fun h => (by cases h), fun h => (by cases h), fun h => (by cases h), fun h => (by cases h), fun h => (by cases h), fun h => (by cases h), fun h => (by cases h), fun h => (by cases h), fun h => (by cases h), fun h => (by cases h), fun h => (by cases h), fun h => (by cases h), fun h => (by cases h), fun h => (by cases h), fun h => (by cases h), fun h => (by cases h), fun h => (by cases h), hv5⟩⟩
      · rintro D a w ⟨u31, u32, u33, u34, u35, u36, u37, u38, u39, u40, u41, u42, u43, u44, u45, u46, u47, u48, u49, u50, u51, rfl, hR⟩ hall
        obtain rfl := hR.h0 (hall 0 (by decide))
        obtain rfl := hR.h1 (hall 1 (by decide))
        obtain rfl := hR.h2 (hall 2 (by decide))
        obtain rfl := hR.h3 (hall 3 (by decide))
        obtain rfl := hR.h4 (hall 4 (by decide))
        obtain rfl := hR.h5 (hall 5 (by decide))
        obtain rfl := hR.h6 (hall 6 (by decide))
        obtain rfl := hR.h7 (hall 7 (by decide))
        obtain rfl := hR.h8 (hall 8 (by decide))
        obtain rfl := hR.h9 (hall 9 (by decide))
        obtain rfl := hR.h10 (hall 10 (by decide))
        obtain rfl := hR.h11 (hall 11 (by decide))
        obtain rfl := hR.h12 (hall 12 (by decide))
        obtain rfl := hR.h13 (hall 13 (by decide))
        obtain rfl := hR.h14 (hall 14 (by decide))
        obtain rfl := hR.h15 (hall 15 (by decide))
        obtain rfl := hR.h16 (hall 16 (by decide))
        obtain rfl := hR.h17 (hall 17 (by decide))
        obtain rfl := hR.h18 (hall 18 (by decide))
        obtain rfl := hR.h20 (hall 20 (by decide))
        obtain rfl := hR.h22 (hall 22 (by decide))
        have hv := hR.v5
        simp only [hall 19 (by decide), hall 21 (by decide), hall 23 (by decide), if_true] at hv
        go_wp2_with fail
        go_meet
        exact ⟨hv, hR.below⟩
      · refine RegInv.Steps.cons (fun D a w hI hD hdep K hK => ?_) ?_
        · obtain ⟨u31, u32, u33, u34, u35, u36, u37, u38, u39, u40, u41, u42, u43, u44, u45, u46, u47, u48, u49, u50, u51, rfl, hR⟩ := hI
          rw [if_pos (by rfl)]
          go_simp
          exact hK.out _ _ ⟨_, _, _, _, _, _, _, _, _, _, _, _, _, _, _, _, _, _, _, _, _, rfl, ⟨hR.below, fun _ => rfl, hR.h1, hR.h2, hR.h3, hR.h4, hR.h5, hR.h6, hR.h7, hR.h8, hR.h9, hR.h10, hR.h11, hR.h12, hR.h13, hR.h14, hR.h15, hR.h16, hR.h17, hR.h18, hR.h20, hR.h22, hR.v5⟩⟩
        refine RegInv.Steps.cons (fun D a w hI hD hdep K hK => ?_) ?_
        · obtain ⟨u31, u32, u33, u34, u35, u36, u37, u38, u39, u40, u41, u42, u43, u44, u45, u46, u47, u48, u49, u50, u51, rfl, hR⟩ := hI
          obtain ⟨ga, gb⟩ := (GL.out.below hR.below HS.out).c0
          rw [if_pos (by rfl)]
          go_simp
          exact hK.out _ _ ⟨_, _, _, _, _, _, _, _, _, _, _, _, _, _, _, _, _, _, _, _, _, rfl, ⟨hR.below, hR.h0, fun _ => rfl, hR.h2, hR.h3, hR.h4, hR.h5, hR.h6, hR.h7, hR.h8, hR.h9, hR.h10, hR.h11, hR.h12, hR.h13, hR.h14, hR.h15, hR.h16, hR.h17, hR.h18, hR.h20, hR.h22, hR.v5⟩⟩
        refine RegInv.Steps.cons (fun D a w hI hD hdep K hK => ?_) ?_
        · obtain ⟨u31, u32, u33, u34, u35, u36, u37, u38, u39, u40, u41, u42, u43, u44, u45, u46, u47, u48, u49, u50, u51, rfl, hR⟩ := hI
          rw [if_pos (by rfl)]
          go_simp
          exact hK.out _ _ ⟨_, _, _, _, _, _, _, _, _, _, _, _, _, _, _, _, _, _, _, _, _, rfl, ⟨hR.below, hR.h0, hR.h1, fun _ => rfl, hR.h3, hR.h4, hR.h5, hR.h6, hR.h7, hR.h8, hR.h9, hR.h10, hR.h11, hR.h12, hR.h13, hR.h14, hR.h15, hR.h16, hR.h17, hR.h18, hR.h20, hR.h22, hR.v5⟩⟩
        refine RegInv.Steps.cons (fun D a w hI hD hdep K hK => ?_) ?_
        · obtain ⟨u31, u32, u33, u34, u35, u36, u37, u38, u39, u40, u41, u42, u43, u44, u45, u46, u47, u48, u49, u50, u51, rfl, hR⟩ := hI
          have d2 : D 2 = true := hdep ⟨2, .data⟩ (by simp) rfl
          obtain rfl := hR.h2 d2
          have cx := (HX.out.below hR.below HX.out.lt).cell 0
          simp only [List.getElem?_cons_zero, List.getElem?_cons_succ] at cx
          rw [if_pos (by rfl)]
          go_simp
          exact hK.out _ _ ⟨_, _, _, _, _, _, _, _, _, _, _, _, _, _, _, _, _, _, _, _, _, rfl, ⟨hR.below, hR.h0, hR.h1, hR.h2, fun _ => rfl, hR.h4, hR.h5, hR.h6, hR.h7, hR.h8, hR.h9, hR.h10, hR.h11, hR.h12, hR.h13, hR.h14, hR.h15, hR.h16, hR.h17, hR.h18, hR.h20, hR.h22, hR.v5⟩⟩
        refine RegInv.Steps.cons (fun D a w hI hD hdep K hK => ?_) ?_
        · obtain ⟨u31, u32, u33, u34, u35, u36, u37, u38, u39, u40, u41, u42, u43, u44, u45, u46, u47, u48, u49, u50, u51, rfl, hR⟩ := hI
          have d0 : D 0 = true := hdep ⟨0, .data⟩ (by simp) rfl
          obtain rfl := hR.h0 d0
          have d1 : D 1 = true := hdep ⟨1, .data⟩ (by simp) rfl
          obtain rfl := hR.h1 d1
          have d3 : D 3 = true := hdep ⟨3, .data⟩ (by simp) rfl
          obtain rfl := hR.h3 d3
          rw [if_pos (by rfl)]
          go_simp
          with_reducible refine ((G0.out _)).mono ?_
          rintro e w9 ⟨rfl, hb9⟩
          exact hK.out _ _ ⟨_, _, _, _, _, _, _, _, _, _, _, _, _, _, _, _, _, _, _, _, _, rfl, ⟨hR.below.trans (hb9.mono hR.below.size), hR.h0, hR.h1, hR.h2, hR.h3, fun _ => rfl, hR.h5, hR.h6, hR.h7, hR.h8, hR.h9, hR.h10, hR.h11, hR.h12, hR.h13, hR.h14, hR.h15, hR.h16, hR.h17, hR.h18, hR.h20, hR.h22, hR.v5.below' hb9⟩⟩
        refine RegInv.Steps.cons (fun D a w hI hD hdep K hK => ?_) ?_
        · obtain ⟨u31, u32, u33, u34, u35, u36, u37, u38, u39, u40, u41, u42, u43, u44, u45, u46, u47, u48, u49, u50, u51, rfl, hR⟩ := hI
          have d4 : D 4 = true := hdep ⟨4, .data⟩ (by simp) rfl
          obtain rfl := hR.h4 d4
          have hb := HW.out.1
          rw [if_pos (by rfl)]
          go_simp
          exact hK.out _ _ ⟨_, _, _, _, _, _, _, _, _, _, _, _, _, _, _, _, _, _, _, _, _, rfl, ⟨hR.below, hR.h0, hR.h1, hR.h2, hR.h3, hR.h4, fun _ => rfl, hR.h6, hR.h7, hR.h8, hR.h9, hR.h10, hR.h11, hR.h12, hR.h13, hR.h14, hR.h15, hR.h16, hR.h17, hR.h18, hR.h20, hR.h22, hR.v5⟩⟩
        refine RegInv.Steps.cons (fun D a w hI hD hdep K hK => ?_) ?_
        · obtain ⟨u31, u32, u33, u34, u35, u36, u37, u38, u39, u40, u41, u42, u43, u44, u45, u46, u47, u48, u49, u50, u51, rfl, hR⟩ := hI
          rw [if_pos (by rfl)]
          go_simp
          exact hK.out _ _ ⟨_, _, _, _, _, _, _, _, _, _, _, _, _, _, _, _, _, _, _, _, _, rfl, ⟨hR.below, hR.h0, hR.h1, hR.h2, hR.h3, hR.h4, hR.h5, fun _ => rfl, hR.h7, hR.h8, hR.h9, hR.h10, hR.h11, hR.h12, hR.h13, hR.h14, hR.h15, hR.h16, hR.h17, hR.h18, hR.h20, hR.h22, hR.v5⟩⟩
        refine RegInv.Steps.cons (fun D a w hI hD hdep K hK => ?_) ?_
        · obtain ⟨u31, u32, u33, u34, u35, u36, u37, u38, u39, u40, u41, u42, u43, u44, u45, u46, u47, u48, u49, u50, u51, rfl, hR⟩ := hI
          obtain ⟨ga, gb⟩ := (GL.out.below hR.below HS.out).c1
          rw [if_pos (by rfl)]
          go_simp
          exact hK.out _ _ ⟨_, _, _, _, _, _, _, _, _, _, _, _, _, _, _, _, _, _, _, _, _, rfl, ⟨hR.below, hR.h0, hR.h1, hR.h2, hR.h3, hR.h4, hR.h5, hR.h6, fun _ => rfl, hR.h8, hR.h9, hR.h10, hR.h11, hR.h12, hR.h13, hR.h14, hR.h15, hR.h16, hR.h17, hR.h18, hR.h20, hR.h22, hR.v5⟩⟩
        refine RegInv.Steps.cons (fun D a w hI hD hdep K hK => ?_) ?_
        · obtain ⟨u31, u32, u33, u34, u35, u36, u37, u38, u39, u40, u41, u42, u43, u44, u45, u46, u47, u48, u49, u50, u51, rfl, hR⟩ := hI
          rw [if_pos (by rfl)]
          go_simp
          exact hK.out _ _ ⟨_, _, _, _, _, _, _, _, _, _, _, _, _, _, _, _, _, _, _, _, _, rfl, ⟨hR.below, hR.h0, hR.h1, hR.h2, hR.h3, hR.h4, hR.h5, hR.h6, hR.h7, fun _ => rfl, hR.h9, hR.h10, hR.h11, hR.h12, hR.h13, hR.h14, hR.h15, hR.h16, hR.h17, hR.h18, hR.h20, hR.h22, hR.v5⟩⟩
        refine RegInv.Steps.cons (fun D a w hI hD hdep K hK => ?_) ?_
        · obtain ⟨u31, u32, u33, u34, u35, u36, u37, u38, u39, u40, u41, u42, u43, u44, u45, u46, u47, u48, u49, u50, u51, rfl, hR⟩ := hI
          have d8 : D 8 = true := hdep ⟨8, .data⟩ (by simp) rfl
          obtain rfl := hR.h8 d8
          have cx := (HX.out.below hR.below HX.out.lt).cell 0
          simp only [List.getElem?_cons_zero, List.getElem?_cons_succ] at cx
          rw [if_pos (by rfl)]
          go_simp
          exact hK.out _ _ ⟨_, _, _, _, _, _, _, _, _, _, _, _, _, _, _, _, _, _, _, _, _, rfl, ⟨hR.below, hR.h0, hR.h1, hR.h2, hR.h3, hR.h4, hR.h5, hR.h6, hR.h7, hR.h8, fun _ => rfl, hR.h10, hR.h11, hR.h12, hR.h13, hR.h14, hR.h15, hR.h16, hR.h17, hR.h18, hR.h20, hR.h22, hR.v5⟩⟩
        refine RegInv.Steps.cons (fun D a w hI hD hdep K hK => ?_) ?_
        · obtain ⟨u31, u32, u33, u34, u35, u36, u37, u38, u39, u40, u41, u42, u43, u44, u45, u46, u47, u48, u49, u50, u51, rfl, hR⟩ := hI
          have d6 : D 6 = true := hdep ⟨6, .data⟩ (by simp) rfl
          obtain rfl := hR.h6 d6
          have d7 : D 7 = true := hdep ⟨7, .data⟩ (by simp) rfl
          obtain rfl := hR.h7 d7
          have d9 : D 9 = true := hdep ⟨9, .data⟩ (by simp) rfl
          obtain rfl := hR.h9 d9
          rw [if_pos (by rfl)]
          go_simp
          with_reducible refine ((G1.out _)).mono ?_
          rintro e w9 ⟨rfl, hb9⟩
          exact hK.out _ _ ⟨_, _, _, _, _, _, _, _, _, _, _, _, _, _, _, _, _, _, _, _, _, rfl, ⟨hR.below.trans (hb9.mono hR.below.size), hR.h0, hR.h1, hR.h2, hR.h3, hR.h4, hR.h5, hR.h6, hR.h7, hR.h8, hR.h9, fun _ => rfl, hR.h11, hR.h12, hR.h13, hR.h14, hR.h15, hR.h16, hR.h17, hR.h18, hR.h20, hR.h22, hR.v5.below' hb9⟩⟩
        refine RegInv.Steps.cons (fun D a w hI hD hdep K hK => ?_) ?_
        · obtain ⟨u31, u32, u33, u34, u35, u36, u37, u38, u39, u40, u41, u42, u43, u44, u45, u46, u47, u48, u49, u50, u51, rfl, hR⟩ := hI
          have d10 : D 10 = true := hdep ⟨10, .data⟩ (by simp) rfl
          obtain rfl := hR.h10 d10
          have hb := HW.out.2.1
          rw [if_pos (by rfl)]
          go_simp
          exact hK.out _ _ ⟨_, _, _, _, _, _, _, _, _, _, _, _, _, _, _, _, _, _, _, _, _, rfl, ⟨hR.below, hR.h0, hR.h1, hR.h2, hR.h3, hR.h4, hR.h5, hR.h6, hR.h7, hR.h8, hR.h9, hR.h10, fun _ => rfl, hR.h12, hR.h13, hR.h14, hR.h15, hR.h16, hR.h17, hR.h18, hR.h20, hR.h22, hR.v5⟩⟩
        refine RegInv.Steps.cons (fun D a w hI hD hdep K hK => ?_) ?_
        · obtain ⟨u31, u32, u33, u34, u35, u36, u37, u38, u39, u40, u41, u42, u43, u44, u45, u46, u47, u48, u49, u50, u51, rfl, hR⟩ := hI
          rw [if_pos (by rfl)]
          go_simp
          exact hK.out _ _ ⟨_, _, _, _, _, _, _, _, _, _, _, _, _, _, _, _, _, _, _, _, _, rfl, ⟨hR.below, hR.h0, hR.h1, hR.h2, hR.h3, hR.h4, hR.h5, hR.h6, hR.h7, hR.h8, hR.h9, hR.h10, hR.h11, fun _ => rfl, hR.h13, hR.h14, hR.h15, hR.h16, hR.h17, hR.h18, hR.h20, hR.h22, hR.v5⟩⟩
        refine RegInv.Steps.cons (fun D a w hI hD hdep K hK => ?_) ?_
        · obtain ⟨u31, u32, u33, u34, u35, u36, u37, u38, u39, u40, u41, u42, u43, u44, u45, u46, u47, u48, u49, u50, u51, rfl, hR⟩ := hI
          obtain ⟨ga, gb⟩ := (GL.out.below hR.below HS.out).c2
          rw [if_pos (by rfl)]
          go_simp
          exact hK.out _ _ ⟨_, _, _, _, _, _, _, _, _, _, _, _, _, _, _, _, _, _, _, _, _, rfl, ⟨hR.below, hR.h0, hR.h1, hR.h2, hR.h3, hR.h4, hR.h5, hR.h6, hR.h7, hR.h8, hR.h9, hR.h10, hR.h11, hR.h12, fun _ => rfl, hR.h14, hR.h15, hR.h16, hR.h17, hR.h18, hR.h20, hR.h22, hR.v5⟩⟩
        refine RegInv.Steps.cons (fun D a w hI hD hdep K hK => ?_) ?_
        · obtain ⟨u31, u32, u33, u34, u35, u36, u37, u38, u39, u40, u41, u42, u43, u44, u45, u46, u47, u48, u49, u50, u51, rfl, hR⟩ := hI
          rw [if_pos (by rfl)]
          go_simp
          exact hK.out _ _ ⟨_, _, _, _, _, _, _, _, _, _, _, _, _, _, _, _, _, _, _, _, _, rfl, ⟨hR.below, hR.h0, hR.h1, hR.h2, hR.h3, hR.h4, hR.h5, hR.h6, hR.h7, hR.h8, hR.h9, hR.h10, hR.h11, hR.h12, hR.h13, fun _ => rfl, hR.h15, hR.h16, hR.h17, hR.h18, hR.h20, hR.h22, hR.v5⟩⟩
        refine RegInv.Steps.cons (fun D a w hI hD hdep K hK => ?_) ?_
        · obtain ⟨u31, u32, u33, u34, u35, u36, u37, u38, u39, u40, u41, u42, u43, u44, u45, u46, u47, u48, u49, u50, u51, rfl, hR⟩ := hI
          have d14 : D 14 = true := hdep ⟨14, .data⟩ (by simp) rfl
          obtain rfl := hR.h14 d14
          have cx := (HX.out.below hR.below HX.out.lt).cell 0
          simp only [List.getElem?_cons_zero, List.getElem?_cons_succ] at cx
          rw [if_pos (by rfl)]
          go_simp
          exact hK.out _ _ ⟨_, _, _, _, _, _, _, _, _, _, _, _, _, _, _, _, _, _, _, _, _, rfl, ⟨hR.below, hR.h0, hR.h1, hR.h2, hR.h3, hR.h4, hR.h5, hR.h6, hR.h7, hR.h8, hR.h9, hR.h10, hR.h11, hR.h12, hR.h13, hR.h14, fun _ => rfl, hR.h16, hR.h17, hR.h18, hR.h20, hR.h22, hR.v5⟩⟩
        refine RegInv.Steps.cons (fun D a w hI hD hdep K hK => ?_) ?_
        · obtain ⟨u31, u32, u33, u34, u35, u36, u37, u38, u39, u40, u41, u42, u43, u44, u45, u46, u47, u48, u49, u50, u51, rfl, hR⟩ := hI
          have d12 : D 12 = true := hdep ⟨12, .data⟩ (by simp) rfl
          obtain rfl := hR.h12 d12
          have d13 : D 13 = true := hdep ⟨13, .data⟩ (by simp) rfl
          obtain rfl := hR.h13 d13
          have d15 : D 15 = true := hdep ⟨15, .data⟩ (by simp) rfl
          obtain rfl := hR.h15 d15
          rw [if_pos (by rfl)]
          go_simp
          with_reducible refine ((G2.out _)).mono ?_
          rintro e w9 ⟨rfl, hb9⟩
          exact hK.out _ _ ⟨_, _, _, _, _, _, _, _, _, _, _, _, _, _, _, _, _, _, _, _, _, rfl, ⟨hR.below.trans (hb9.mono hR.below.size), hR.h0, hR.h1, hR.h2, hR.h3, hR.h4, hR.h5, hR.h6, hR.h7, hR.h8, hR.h9, hR.h10, hR.h11, hR.h12, hR.h13, hR.h14, hR.h15, fun _ => rfl, hR.h17, hR.h18, hR.h20, hR.h22, hR.v5.below' hb9⟩⟩
        refine RegInv.Steps.cons (fun D a w hI hD hdep K hK => ?_) ?_
        · obtain ⟨u31, u32, u33, u34, u35, u36, u37, u38, u39, u40, u41, u42, u43, u44, u45, u46, u47, u48, u49, u50, u51, rfl, hR⟩ := hI
          have d16 : D 16 = true := hdep ⟨16, .data⟩ (by simp) rfl
          obtain rfl := hR.h16 d16
          have hb := HW.out.2.2.1
          rw [if_pos (by rfl)]
          go_simp
          exact hK.out _ _ ⟨_, _, _, _, _, _, _, _, _, _, _, _, _, _, _, _, _, _, _, _, _, rfl, ⟨hR.below, hR.h0, hR.h1, hR.h2, hR.h3, hR.h4, hR.h5, hR.h6, hR.h7, hR.h8, hR.h9, hR.h10, hR.h11, hR.h12, hR.h13, hR.h14, hR.h15, hR.h16, fun _ => rfl, hR.h18, hR.h20, hR.h22, hR.v5⟩⟩
        refine RegInv.Steps.cons (fun D a w hI hD hdep K hK => ?_) ?_
        · obtain ⟨u31, u32, u33, u34, u35, u36, u37, u38, u39, u40, u41, u42, u43, u44, u45, u46, u47, u48, u49, u50, u51, rfl, hR⟩ := hI
          rw [if_pos (by rfl)]
          go_simp
          exact hK.out _ _ ⟨_, _, _, _, _, _, _, _, _, _, _, _, _, _, _, _, _, _, _, _, _, rfl, ⟨hR.below, hR.h0, hR.h1, hR.h2, hR.h3, hR.h4, hR.h5, hR.h6, hR.h7, hR.h8, hR.h9, hR.h10, hR.h11, hR.h12, hR.h13, hR.h14, hR.h15, hR.h16, hR.h17, fun _ => rfl, hR.h20, hR.h22, hR.v5⟩⟩
        refine RegInv.Steps.cons (fun D a w hI hD hdep K hK => ?_) ?_
        · obtain ⟨u31, u32, u33, u34, u35, u36, u37, u38, u39, u40, u41, u42, u43, u44, u45, u46, u47, u48, u49, u50, u51, rfl, hR⟩ := hI
          have d18 : D 18 = true := hdep ⟨18, .data⟩ (by simp) rfl
          obtain rfl := hR.h18 d18
          have d5 : D 5 = true := hdep ⟨5, .data⟩ (by simp) rfl
          obtain rfl := hR.h5 d5
          have cc := hR.v5.cell 0
          simp only [List.getElem?_cons_zero, List.getElem?_cons_succ] at cc
          have fc := hR.v5.free 0
          rw [if_pos (by rfl)]
          go_simp
          exact hK.out _ _ ⟨_, _, _, _, _, _, _, _, _, _, _, _, _, _, _, _, _, _, _, _, _, rfl, ⟨hR.below.setCell hb5 _, hR.h0, hR.h1, hR.h2, hR.h3, hR.h4, hR.h5, hR.h6, hR.h7, hR.h8, hR.h9, hR.h10, hR.h11, hR.h12, hR.h13, hR.h14, hR.h15, hR.h16, hR.h17, hR.h18, hR.h20, hR.h22, hR.v5.set 0 (.int .i64 (n0 : Int))⟩⟩
        refine RegInv.Steps.cons (fun D a w hI hD hdep K hK => ?_) ?_
        · obtain ⟨u31, u32, u33, u34, u35, u36, u37, u38, u39, u40, u41, u42, u43, u44, u45, u46, u47, u48, u49, u50, u51, rfl, hR⟩ := hI
          rw [if_pos (by rfl)]
          go_simp
          exact hK.out _ _ ⟨_, _, _, _, _, _, _, _, _, _, _, _, _, _, _, _, _, _, _, _, _, rfl, ⟨hR.below, hR.h0, hR.h1, hR.h2, hR.h3, hR.h4, hR.h5, hR.h6, hR.h7, hR.h8, hR.h9, hR.h10, hR.h11, hR.h12, hR.h13, hR.h14, hR.h15, hR.h16, hR.h17, hR.h18, fun _ => rfl, hR.h22, hR.v5⟩⟩
        refine RegInv.Steps.cons (fun D a w hI hD hdep K hK => ?_) ?_
        · obtain ⟨u31, u32, u33, u34, u35, u36, u37, u38, u39, u40, u41, u42, u43, u44, u45, u46, u47, u48, u49, u50, u51, rfl, hR⟩ := hI
          have d20 : D 20 = true := hdep ⟨20, .data⟩ (by simp) rfl
          obtain rfl := hR.h20 d20
          have d11 : D 11 = true := hdep ⟨11, .data⟩ (by simp) rfl
          obtain rfl := hR.h11 d11
          have cc := hR.v5.cell 1
          simp only [List.getElem?_cons_zero, List.getElem?_cons_succ] at cc
          have fc := hR.v5.free 1
          rw [if_pos (by rfl)]
          go_simp
          exact hK.out _ _ ⟨_, _, _, _, _, _, _, _, _, _, _, _, _, _, _, _, _, _, _, _, _, rfl, ⟨hR.below.setCell hb5 _, hR.h0, hR.h1, hR.h2, hR.h3, hR.h4, hR.h5, hR.h6, hR.h7, hR.h8, hR.h9, hR.h10, hR.h11, hR.h12, hR.h13, hR.h14, hR.h15, hR.h16, hR.h17, hR.h18, hR.h20, hR.h22, hR.v5.set 1 (.int .i64 (n1 : Int))⟩⟩
        refine RegInv.Steps.cons (fun D a w hI hD hdep K hK => ?_) ?_
        · obtain ⟨u31, u32, u33, u34, u35, u36, u37, u38, u39, u40, u41, u42, u43, u44, u45, u46, u47, u48, u49, u50, u51, rfl, hR⟩ := hI
          rw [if_pos (by rfl)]
          go_simp
          exact hK.out _ _ ⟨_, _, _, _, _, _, _, _, _, _, _, _, _, _, _, _, _, _, _, _, _, rfl, ⟨hR.below, hR.h0, hR.h1, hR.h2, hR.h3, hR.h4, hR.h5, hR.h6, hR.h7, hR.h8, hR.h9, hR.h10, hR.h11, hR.h12, hR.h13, hR.h14, hR.h15, hR.h16, hR.h17, hR.h18, hR.h20, fun _ => rfl, hR.v5⟩⟩
        refine RegInv.Steps.cons (fun D a w hI hD hdep K hK => ?_) ?_
        · obtain ⟨u31, u32, u33, u34, u35, u36, u37, u38, u39, u40, u41, u42, u43, u44, u45, u46, u47, u48, u49, u50, u51, rfl, hR⟩ := hI
          have d22 : D 22 = true := hdep ⟨22, .data⟩ (by simp) rfl
          obtain rfl := hR.h22 d22
          have d17 : D 17 = true := hdep ⟨17, .data⟩ (by simp) rfl
          obtain rfl := hR.h17 d17
          have cc := hR.v5.cell 2
          simp only [List.getElem?_cons_zero, List.getElem?_cons_succ] at cc
          have fc := hR.v5.free 2
          rw [if_pos (by rfl)]
          go_simp
          exact hK.out _ _ ⟨_, _, _, _, _, _, _, _, _, _, _, _, _, _, _, _, _, _, _, _, _, rfl, ⟨hR.below.setCell hb5 _, hR.h0, hR.h1, hR.h2, hR.h3, hR.h4, hR.h5, hR.h6, hR.h7, hR.h8, hR.h9, hR.h10, hR.h11, hR.h12, hR.h13, hR.h14, hR.h15, hR.h16, hR.h17, hR.h18, hR.h20, hR.h22, hR.v5.set 2 (.int .i64 (n2 : Int))⟩⟩
        exact RegInv.Steps.nil

    case rest =>
      clear hv5 hbw
      obtain ⟨hv5, hbw⟩ := hcut
      go_upto_region 4 with fail
      go_cut [] from 52 to 72 (fun wx => HoldsV 24 wx b5 [.int .i64 (n0 : Int), .int .i64 (n1 : Int), .int .i64 (n2 : Int), .int .i64 (n3 : Int), .int .i64 (n7 : Int), .int .u32 (n9 : Int), .int .i64 (n4 : Int), .bool bS, .bool bT, .int .i64 0, .int .u32 (n8 : Int)] ∧ Below w0.heap.size w0 wx)
      case first =>
        refine RegInv.wp_region_steps (I := fun D a w => ∃ u52 u53 u54 u55 u56 u57 u58 u59 u60 u61 u62 u63 u64 u65 u66 u67 u68 u69 u70 u71 u72, a = ⟨(.agg #[.int .u64 (x0 : Int), .int .u64 (x1 : Int), .int .u64 (x2 : Int)] :: .pointer (some ⟨bx, 0, none⟩) :: .pointer (some ⟨br, 0, none⟩) :: .int .i64 0 :: .func (.func 53) #[] #[] :: .pointer (some ⟨b5, 0, none⟩) :: u6 :: u7 :: u8 :: u9 :: u10 :: u11 :: u12 :: u13 :: u14 :: u15 :: u16 :: u17 :: u18 :: u19 :: u20 :: u21 :: u22 :: u23 :: u24 :: u25 :: u26 :: u27 :: u28 :: u29 :: u30 :: u31 :: u32 :: u33 :: u34 :: u35 :: u36 :: u37 :: u38 :: u39 :: u40 :: u41 :: u42 :: u43 :: u44 :: u45 :: u46 :: u47 :: u48 :: u49 :: u50 :: u51 :: u52 :: u53 :: u54 :: u55 :: u56 :: u57 :: u58 :: u59 :: u60 :: u61 :: u62 :: u63 :: u64 :: u65 :: u66 :: u67 :: u68 :: u69 :: u70 :: u71 :: u72 :: undef :: undef :: undef :: undef :: undef :: undef :: undef :: undef :: undef :: undef :: undef :: undef :: undef :: undef :: undef :: undef :: undef :: undef :: undef :: undef :: undef :: undef :: undef :: undef :: undef :: undef :: undef :: undef :: undef :: undef :: undef :: undef :: undef :: undef :: undef :: []).toArray, []⟩ ∧ RG4 bx b5 x0 n9 n8 n0 n1 n2 n3 n4 n7 bS bT w0 D u52 u53 u54 u55 u56 u57 u58 u59 u60 u61 u62 u63 u64 u65 u66 u67 u68 u69 u70 u71 u72 w) (by kernel_rfl) (by kernel_rfl) ?_ ?_ ?_
        · exact ⟨_, _, _, _, _, _, _, _, _, _, _, _, _, _, _, _, _, _, _, _, _, rfl, ⟨hbw.drew, fun h => (by cases h), fun h => (by cases h), fun h => (by cases h), fun h => (by cases h), fun h => (by cases h), fun h => (by cases h), fun h => (by cases h), fun h => (by cases h), fun h => (by cases h), fun h => (by cases h), fun h => (by cases h), fun h => (by cases h), fun h => (by cases h), fun h => (by cases h), fun h => (by cases h), fun h => (by cases h), fun h => (by cases h), fun h => (by cases h), fun h => (by cases h), fun h => (by cases h), fun h => (by cases h), hv5⟩⟩
        · rintro D a w ⟨u52, u53, u54, u55, u56, u57, u58, u59, u60, u61, u62, u63, u64, u65, u66, u67, u68, u69, u70, u71, u72, rfl, hR⟩ hall
          obtain rfl := hR.h0 (hall 0 (by decide))
          obtain rfl := hR.h1 (hall 1 (by decide))
          obtain rfl := hR.h2 (hall 2 (by decide))
          obtain rfl := hR.h3 (hall 3 (by decide))
          obtain rfl := hR.h4 (hall 4 (by decide))
          obtain rfl := hR.h5 (hall 5 (by decide))
          obtain rfl := hR.h6 (hall 6 (by decide))
          obtain rfl := hR.h7 (hall 7 (by decide))
          obtain rfl := hR.h8 (hall 8 (by decide))
          obtain rfl := hR.h9 (hall 9 (by decide))
          obtain rfl := hR.h10 (hall 10 (by decide))
          obtain rfl := hR.h11 (hall 11 (by decide))
          obtain rfl := hR.h12 (hall 12 (by decide))
          obtain rfl := hR.h13 (hall 13 (by decide))
          obtain rfl := hR.h14 (hall 14 (by decide))
          obtain rfl := hR.h15 (hall 15 (by decide))
          obtain rfl := hR.h16 (hall 16 (by decide))
          obtain rfl := hR.h17 (hall 17 (by decide))
          obtain rfl := hR.h18 (hall 18 (by decide))
          obtain rfl := hR.h20 (hall 20 (by decide))
          obtain rfl := hR.h22 (hall 22 (by decide))
          have hv := hR.v5
          simp only [hall 19 (by decide), hall 21 (by decide), hall 23 (by decide), if_true] at hv
          go_wp2_with fail
          go_meet
          exact ⟨hv, hR.below⟩
        · refine RegInv.Steps.cons (fun D a w hI hD hdep K hK => ?_) ?_
          · obtain ⟨u52, u53, u54, u55, u56, u57, u58, u59, u60, u61, u62, u63, u64, u65, u66, u67, u68, u69, u70, u71, u72, rfl, hR⟩ := hI
            rw [if_pos (by rfl)]
            go_simp
            exact hK.out _ _ ⟨_, _, _, _, _, _, _, _, _, _, _, _, _, _, _, _, _, _, _, _, _, rfl, ⟨hR.below, fun _ => rfl, hR.h1, hR.h2, hR.h3, hR.h4, hR.h5, hR.h6, hR.h7, hR.h8, hR.h9, hR.h10, hR.h11, hR.h12, hR.h13, hR.h14, hR.h15, hR.h16, hR.h17, hR.h18, hR.h20, hR.h22, hR.v5⟩⟩
          refine RegInv.Steps.cons (fun D a w hI hD hdep K hK => ?_) ?_
          · obtain ⟨u52, u53, u54, u55, u56, u57, u58, u59, u60, u61, u62, u63, u64, u65, u66, u67, u68, u69, u70, u71, u72, rfl, hR⟩ := hI
            obtain ⟨ga, gb⟩ := (GL.out.below hR.below HS.out).c3
            rw [if_pos (by rfl)]
            go_simp
            exact hK.out _ _ ⟨_, _, _, _, _, _, _, _, _, _, _, _, _, _, _, _, _, _, _, _, _, rfl, ⟨hR.below, hR.h0, fun _ => rfl, hR.h2, hR.h3, hR.h4, hR.h5, hR.h6, hR.h7, hR.h8, hR.h9, hR.h10, hR.h11, hR.h12, hR.h13, hR.h14, hR.h15, hR.h16, hR.h17, hR.h18, hR.h20, hR.h22, hR.v5⟩⟩
          refine RegInv.Steps.cons (fun D a w hI hD hdep K hK => ?_) ?_
          · obtain ⟨u52, u53, u54, u55, u56, u57, u58, u59, u60, u61, u62, u63, u64, u65, u66, u67, u68, u69, u70, u71, u72, rfl, hR⟩ := hI
            rw [if_pos (by rfl)]
            go_simp
            exact hK.out _ _ ⟨_, _, _, _, _, _, _, _, _, _, _, _, _, _, _, _, _, _, _, _, _, rfl, ⟨hR.below, hR.h0, hR.h1, fun _ => rfl, hR.h3, hR.h4, hR.h5, hR.h6, hR.h7, hR.h8, hR.h9, hR.h10, hR.h11, hR.h12, hR.h13, hR.h14, hR.h15, hR.h16, hR.h17, hR.h18, hR.h20, hR.h22, hR.v5⟩⟩
          refine RegInv.Steps.cons (fun D a w hI hD hdep K hK => ?_) ?_
          · obtain ⟨u52, u53, u54, u55, u56, u57, u58, u59, u60, u61, u62, u63, u64, u65, u66, u67, u68, u69, u70, u71, u72, rfl, hR⟩ := hI
            have d2 : D 2 = true := hdep ⟨2, .data⟩ (by simp) rfl
            obtain rfl := hR.h2 d2
            have cx := (HX.out.below hR.below HX.out.lt).cell 0
            simp only [List.getElem?_cons_zero, List.getElem?_cons_succ] at cx
            rw [if_pos (by rfl)]
            go_simp
            exact hK.out _ _ ⟨_, _, _, _, _, _, _, _, _, _, _, _, _, _, _, _, _, _, _, _, _, rfl, ⟨hR.below, hR.h0, hR.h1, hR.h2, fun _ => rfl, hR.h4, hR.h5, hR.h6, hR.h7, hR.h8, hR.h9, hR.h10, hR.h11, hR.h12, hR.h13, hR.h14, hR.h15, hR.h16, hR.h17, hR.h18, hR.h20, hR.h22, hR.v5⟩⟩
          refine RegInv.Steps.cons (fun D a w hI hD hdep K hK => ?_) ?_
          · obtain ⟨u52, u53, u54, u55, u56, u57, u58, u59, u60, u61, u62, u63, u64, u65, u66, u67, u68, u69, u70, u71, u72, rfl, hR⟩ := hI
            have d0 : D 0 = true := hdep ⟨0, .data⟩ (by simp) rfl
            obtain rfl := hR.h0 d0
            have d1 : D 1 = true := hdep ⟨1, .data⟩ (by simp) rfl
            obtain rfl := hR.h1 d1
            have d3 : D 3 = true := hdep ⟨3, .data⟩ (by simp) rfl
            obtain rfl := hR.h3 d3
            rw [if_pos (by rfl)]
            go_simp
            with_reducible refine ((G3.out _)).mono ?_
            rintro e w9 ⟨rfl, hb9⟩
            exact hK.out _ _ ⟨_, _, _, _, _, _, _, _, _, _, _, _, _, _, _, _, _, _, _, _, _, rfl, ⟨hR.below.trans (hb9.mono hR.below.size), hR.h0, hR.h1, hR.h2, hR.h3, fun _ => rfl, hR.h5, hR.h6, hR.h7, hR.h8, hR.h9, hR.h10, hR.h11, hR.h12, hR.h13, hR.h14, hR.h15, hR.h16, hR.h17, hR.h18, hR.h20, hR.h22, hR.v5.below' hb9⟩⟩
          refine RegInv.Steps.cons (fun D a w hI hD hdep K hK => ?_) ?_
          · obtain ⟨u52, u53, u54, u55, u56, u57, u58, u59, u60, u61, u62, u63, u64, u65, u66, u67, u68, u69, u70, u71, u72, rfl, hR⟩ := hI
            have d4 : D 4 = true := hdep ⟨4, .data⟩ (by simp) rfl
            obtain rfl := hR.h4 d4
            have hb := HW.out.2.2.2.1
            rw [if_pos (by rfl)]
            go_simp
            exact hK.out _ _ ⟨_, _, _, _, _, _, _, _, _, _, _, _, _, _, _, _, _, _, _, _, _, rfl, ⟨hR.below, hR.h0, hR.h1, hR.h2, hR.h3, hR.h4, fun _ => rfl, hR.h6, hR.h7, hR.h8, hR.h9, hR.h10, hR.h11, hR.h12, hR.h13, hR.h14, hR.h15, hR.h16, hR.h17, hR.h18, hR.h20, hR.h22, hR.v5⟩⟩
          refine RegInv.Steps.cons (fun D a w hI hD hdep K hK => ?_) ?_
          · obtain ⟨u52, u53, u54, u55, u56, u57, u58, u59, u60, u61, u62, u63, u64, u65, u66, u67, u68, u69, u70, u71, u72, rfl, hR⟩ := hI
            rw [if_pos (by rfl)]
            go_simp
            exact hK.out _ _ ⟨_, _, _, _, _, _, _, _, _, _, _, _, _, _, _, _, _, _, _, _, _, rfl, ⟨hR.below, hR.h0, hR.h1, hR.h2, hR.h3, hR.h4, hR.h5, fun _ => rfl, hR.h7, hR.h8, hR.h9, hR.h10, hR.h11, hR.h12, hR.h13, hR.h14, hR.h15, hR.h16, hR.h17, hR.h18, hR.h20, hR.h22, hR.v5⟩⟩
          refine RegInv.Steps.cons (fun D a w hI hD hdep K hK => ?_) ?_
          · obtain ⟨u52, u53, u54, u55, u56, u57, u58, u59, u60, u61, u62, u63, u64, u65, u66, u67, u68, u69, u70, u71, u72, rfl, hR⟩ := hI
            obtain ⟨ga, gb⟩ := (GL.out.below hR.below HS.out).c4
            rw [if_pos (by rfl)]
            go_simp
            exact hK.out _ _ ⟨_, _, _, _, _, _, _, _, _, _, _, _, _, _, _, _, _, _, _, _, _, rfl, ⟨hR.below, hR.h0, hR.h1, hR.h2, hR.h3, hR.h4, hR.h5, hR.h6, fun _ => rfl, hR.h8, hR.h9, hR.h10, hR.h11, hR.h12, hR.h13, hR.h14, hR.h15, hR.h16, hR.h17, hR.h18, hR.h20, hR.h22, hR.v5⟩⟩
          refine RegInv.Steps.cons (fun D a w hI hD hdep K hK => ?_) ?_
          · obtain ⟨u52, u53, u54, u55, u56, u57, u58, u59, u60, u61, u62, u63, u64, u65, u66, u67, u68, u69, u70, u71, u72, rfl, hR⟩ := hI
            rw [if_pos (by rfl)]
            go_simp
            exact hK.out _ _ ⟨_, _, _, _, _, _, _, _, _, _, _, _, _, _, _, _, _, _, _, _, _, rfl, ⟨hR.below, hR.h0, hR.h1, hR.h2, hR.h3, hR.h4, hR.h5, hR.h6, hR.h7, fun _ => rfl, hR.h9, hR.h10, hR.h11, hR.h12, hR.h13, hR.h14, hR.h15, hR.h16, hR.h17, hR.h18, hR.h20, hR.h22, hR.v5⟩⟩
          refine RegInv.Steps.cons (fun D a w hI hD hdep K hK => ?_) ?_
          · obtain ⟨u52, u53, u54, u55, u56, u57, u58, u59, u60, u61, u62, u63, u64, u65, u66, u67, u68, u69, u70, u71, u72, rfl, hR⟩ := hI
            have d8 : D 8 = true := hdep ⟨8, .data⟩ (by simp) rfl
            obtain rfl := hR.h8 d8
            have cx := (HX.out.below hR.below HX.out.lt).cell 0
            simp only [List.getElem?_cons_zero, List.getElem?_cons_succ] at cx
            rw [if_pos (by rfl)]
            go_simp
            exact hK.out _ _ ⟨_, _, _, _, _, _, _, _, _, _, _, _, _, _, _, _, _, _, _, _, _, rfl, ⟨hR.below, hR.h0, hR.h1, hR.h2, hR.h3, hR.h4, hR.h5, hR.h6, hR.h7, hR.h8, fun _ => rfl, hR.h10, hR.h11, hR.h12, hR.h13, hR.h14, hR.h15, hR.h16, hR.h17, hR.h18, hR.h20, hR.h22, hR.v5⟩⟩
          refine RegInv.Steps.cons (fun D a w hI hD hdep K hK => ?_) ?_
          · obtain ⟨u52, u53, u54, u55, u56, u57, u58, u59, u60, u61, u62, u63, u64, u65, u66, u67, u68, u69, u70, u71, u72, rfl, hR⟩ := hI
            have d6 : D 6 = true := hdep ⟨6, .data⟩ (by simp) rfl
            obtain rfl := hR.h6 d6
            have d7 : D 7 = true := hdep ⟨7, .data⟩ (by simp) rfl
            obtain rfl := hR.h7 d7
            have d9 : D 9 = true := hdep ⟨9, .data⟩ (by simp) rfl
            obtain rfl := hR.h9 d9
            rw [if_pos (by rfl)]
            go_simp
            with_reducible refine ((G4.out _)).mono ?_
            rintro e w9 ⟨rfl, hb9⟩
            exact hK.out _ _ ⟨_, _, _, _, _, _, _, _, _, _, _, _, _, _, _, _, _, _, _, _, _, rfl, ⟨hR.below.trans (hb9.mono hR.below.size), hR.h0, hR.h1, hR.h2, hR.h3, hR.h4, hR.h5, hR.h6, hR.h7, hR.h8, hR.h9, fun _ => rfl, hR.h11, hR.h12, hR.h13, hR.h14, hR.h15, hR.h16, hR.h17, hR.h18, hR.h20, hR.h22, hR.v5.below' hb9⟩⟩
          refine RegInv.Steps.cons (fun D a w hI hD hdep K hK => ?_) ?_
          · obtain ⟨u52, u53, u54, u55, u56, u57, u58, u59, u60, u61, u62, u63, u64, u65, u66, u67, u68, u69, u70, u71, u72, rfl, hR⟩ := hI
            have d10 : D 10 = true := hdep ⟨10, .data⟩ (by simp) rfl
            obtain rfl := hR.h10 d10
            have hb := HW.out.2.2.2.2.1
            rw [if_pos (by rfl)]
            go_simp
            exact hK.out _ _ ⟨_, _, _, _, _, _, _, _, _, _, _, _, _, _, _, _, _, _, _, _, _, rfl, ⟨hR.below, hR.h0, hR.h1, hR.h2, hR.h3, hR.h4, hR.h5, hR.h6, hR.h7, hR.h8, hR.h9, hR.h10, fun _ => rfl, hR.h12, hR.h13, hR.h14, hR.h15, hR.h16, hR.h17, hR.h18, hR.h20, hR.h22, hR.v5⟩⟩
          refine RegInv.Steps.cons (fun D a w hI hD hdep K hK => ?_) ?_
          · obtain ⟨u52, u53, u54, u55, u56, u57, u58, u59, u60, u61, u62, u63, u64, u65, u66, u67, u68, u69, u70, u71, u72, rfl, hR⟩ := hI
            rw [if_pos (by rfl)]
            go_simp
            exact hK.out _ _ ⟨_, _, _, _, _, _, _, _, _, _, _, _, _, _, _, _, _, _, _, _, _, rfl, ⟨hR.below, hR.h0, hR.h1, hR.h2, hR.h3, hR.h4, hR.h5, hR.h6, hR.h7, hR.h8, hR.h9, hR.h10, hR.h11, fun _ => rfl, hR.h13, hR.h14, hR.h15, hR.h16, hR.h17, hR.h18, hR.h20, hR.h22, hR.v5⟩⟩
          refine RegInv.Steps.cons (fun D a w hI hD hdep K hK => ?_) ?_
          · obtain ⟨u52, u53, u54, u55, u56, u57, u58, u59, u60, u61, u62, u63, u64, u65, u66, u67, u68, u69, u70, u71, u72, rfl, hR⟩ := hI
            obtain ⟨ga, gb⟩ := (GL.out.below hR.below HS.out).c7
            rw [if_pos (by rfl)]
            go_simp
            exact hK.out _ _ ⟨_, _, _, _, _, _, _, _, _, _, _, _, _, _, _, _, _, _, _, _, _, rfl, ⟨hR.below, hR.h0, hR.h1, hR.h2, hR.h3, hR.h4, hR.h5, hR.h6, hR.h7, hR.h8, hR.h9, hR.h10, hR.h11, hR.h12, fun _ => rfl, hR.h14, hR.h15, hR.h16, hR.h17, hR.h18, hR.h20, hR.h22, hR.v5⟩⟩
          refine RegInv.Steps.cons (fun D a w hI hD hdep K hK => ?_) ?_
          · obtain ⟨u52, u53, u54, u55, u56, u57, u58, u59, u60, u61, u62, u63, u64, u65, u66, u67, u68, u69, u70, u71, u72, rfl, hR⟩ := hI
            rw [if_pos (by rfl)]
            go_simp
            exact hK.out _ _ ⟨_, _, _, _, _, _, _, _, _, _, _, _, _, _, _, _, _, _, _, _, _, rfl, ⟨hR.below, hR.h0, hR.h1, hR.h2, hR.h3, hR.h4, hR.h5, hR.h6, hR.h7, hR.h8, hR.h9, hR.h10, hR.h11, hR.h12, hR.h13, fun _ => rfl, hR.h15, hR.h16, hR.h17, hR.h18, hR.h20, hR.h22, hR.v5⟩⟩
          refine RegInv.Steps.cons (fun D a w hI hD hdep K hK => ?_) ?_
          · obtain ⟨u52, u53, u54, u55, u56, u57, u58, u59, u60, u61, u62, u63, u64, u65, u66, u67, u68, u69, u70, u71, u72, rfl, hR⟩ := hI
            have d14 : D 14 = true := hdep ⟨14, .data⟩ (by simp) rfl
            obtain rfl := hR.h14 d14
            have cx := (HX.out.below hR.below HX.out.lt).cell 0
            simp only [List.getElem?_cons_zero, List.getElem?_cons_succ] at cx
            rw [if_pos (by rfl)]
            go_simp
            exact hK.out _ _ ⟨_, _, _, _, _, _, _, _, _, _, _, _, _, _, _, _, _, _, _, _, _, rfl, ⟨hR.below, hR.h0, hR.h1, hR.h2, hR.h3, hR.h4, hR.h5, hR.h6, hR.h7, hR.h8, hR.h9, hR.h10, hR.h11, hR.h12, hR.h13, hR.h14, fun _ => rfl, hR.h16, hR.h17, hR.h18, hR.h20, hR.h22, hR.v5⟩⟩
          refine RegInv.Steps.cons (fun D a w hI hD hdep K hK => ?_) ?_
          · obtain ⟨u52, u53, u54, u55, u56, u57, u58, u59, u60, u61, u62, u63, u64, u65, u66, u67, u68, u69, u70, u71, u72, rfl, hR⟩ := hI
            have d12 : D 12 = true := hdep ⟨12, .data⟩ (by simp) rfl
            obtain rfl := hR.h12 d12
            have d13 : D 13 = true := hdep ⟨13, .data⟩ (by simp) rfl
            obtain rfl := hR.h13 d13
            have d15 : D 15 = true := hdep ⟨15, .data⟩ (by simp) rfl
            obtain rfl := hR.h15 d15
            rw [if_pos (by rfl)]
            go_simp
            with_reducible refine ((G7.out _)).mono ?_
            rintro e w9 ⟨rfl, hb9⟩
            exact hK.out _ _ ⟨_, _, _, _, _, _, _, _, _, _, _, _, _, _, _, _, _, _, _, _, _, rfl, ⟨hR.below.trans (hb9.mono hR.below.size), hR.h0, hR.h1, hR.h2, hR.h3, hR.h4, hR.h5, hR.h6, hR.h7, hR.h8, hR.h9, hR.h10, hR.h11, hR.h12, hR.h13, hR.h14, hR.h15, fun _ => rfl, hR.h17, hR.h18, hR.h20, hR.h22, hR.v5.below' hb9⟩⟩
          refine RegInv.Steps.cons (fun D a w hI hD hdep K hK => ?_) ?_
          · obtain ⟨u52, u53, u54, u55, u56, u57, u58, u59, u60, u61, u62, u63, u64, u65, u66, u67, u68, u69, u70, u71, u72, rfl, hR⟩ := hI
            have d16 : D 16 = true := hdep ⟨16, .data⟩ (by simp) rfl
            obtain rfl := hR.h16 d16
            have hb := HW.out.2.2.2.2.2.2.2.1
            rw [if_pos (by rfl)]
            go_simp
            exact hK.out _ _ ⟨_, _, _, _, _, _, _, _, _, _, _, _, _, _, _, _, _, _, _, _, _, rfl, ⟨hR.below, hR.h0, hR.h1, hR.h2, hR.h3, hR.h4, hR.h5, hR.h6, hR.h7, hR.h8, hR.h9, hR.h10, hR.h11, hR.h12, hR.h13, hR.h14, hR.h15, hR.h16, fun _ => rfl, hR.h18, hR.h20, hR.h22, hR.v5⟩⟩
          refine RegInv.Steps.cons (fun D a w hI hD hdep K hK => ?_) ?_
          · obtain ⟨u52, u53, u54, u55, u56, u57, u58, u59, u60, u61, u62, u63, u64, u65, u66, u67, u68, u69, u70, u71, u72, rfl, hR⟩ := hI
            rw [if_pos (by rfl)]
            go_simp
            exact hK.out _ _ ⟨_, _, _, _, _, _, _, _, _, _, _, _, _, _, _, _, _, _, _, _, _, rfl, ⟨hR.below, hR.h0, hR.h1, hR.h2, hR.h3, hR.h4, hR.h5, hR.h6, hR.h7, hR.h8, hR.h9, hR.h10, hR.h11, hR.h12, hR.h13, hR.h14, hR.h15, hR.h16, hR.h17, fun _ => rfl, hR.h20, hR.h22, hR.v5⟩⟩
          refine RegInv.Steps.cons (fun D a w hI hD hdep K hK => ?_) ?_
          · obtain ⟨u52, u53, u54, u55, u56, u57, u58, u59, u60, u61, u62, u63, u64, u65, u66, u67, u68, u69, u70, u71, u72, rfl, hR⟩ := hI
            have d18 : D 18 = true := hdep ⟨18, .data⟩ (by simp) rfl
            obtain rfl := hR.h18 d18
            have d5 : D 5 = true := hdep ⟨5, .data⟩ (by simp) rfl
            obtain rfl := hR.h5 d5
            have cc := hR.v5.cell 3
            simp only [List.getElem?_cons_zero, List.getElem?_cons_succ] at cc
            have fc := hR.v5.free 3
            rw [if_pos (by rfl)]
            go_simp
            exact hK.out _ _ ⟨_, _, _, _, _, _, _, _, _, _, _, _, _, _, _, _, _, _, _, _, _, rfl, ⟨hR.below.setCell hb5 _, hR.h0, hR.h1, hR.h2, hR.h3, hR.h4, hR.h5, hR.h6, hR.h7, hR.h8, hR.h9, hR.h10, hR.h11, hR.h12, hR.h13, hR.h14, hR.h15, hR.h16, hR.h17, hR.h18, hR.h20, hR.h22, hR.v5.set 3 (.int .i64 (n3 : Int))⟩⟩
          refine RegInv.Steps.cons (fun D a w hI hD hdep K hK => ?_) ?_
          · obtain ⟨u52, u53, u54, u55, u56, u57, u58, u59, u60, u61, u62, u63, u64, u65, u66, u67, u68, u69, u70, u71, u72, rfl, hR⟩ := hI
            rw [if_pos (by rfl)]
            go_simp
            exact hK.out _ _ ⟨_, _, _, _, _, _, _, _, _, _, _, _, _, _, _, _, _, _, _, _, _, rfl, ⟨hR.below, hR.h0, hR.h1, hR.h2, hR.h3, hR.h4, hR.h5, hR.h6, hR.h7, hR.h8, hR.h9, hR.h10, hR.h11, hR.h12, hR.h13, hR.h14, hR.h15, hR.h16, hR.h17, hR.h18, fun _ => rfl, hR.h22, hR.v5⟩⟩
          refine RegInv.Steps.cons (fun D a w hI hD hdep K hK => ?_) ?_
          · obtain ⟨u52, u53, u54, u55, u56, u57, u58, u59, u60, u61, u62, u63, u64, u65, u66, u67, u68, u69, u70, u71, u72, rfl, hR⟩ := hI
            have d20 : D 20 = true := hdep ⟨20, .data⟩ (by simp) rfl
            obtain rfl := hR.h20 d20
            have d11 : D 11 = true := hdep ⟨11, .data⟩ (by simp) rfl
            obtain rfl := hR.h11 d11
            have cc := hR.v5.cell 6
            simp only [List.getElem?_cons_zero, List.getElem?_cons_succ] at cc
            have fc := hR.v5.free 6
            rw [if_pos (by rfl)]
            go_simp
            exact hK.out _ _ ⟨_, _, _, _, _, _, _, _, _, _, _, _, _, _, _, _, _, _, _, _, _, rfl, ⟨hR.below.setCell hb5 _, hR.h0, hR.h1, hR.h2, hR.h3, hR.h4, hR.h5, hR.h6, hR.h7, hR.h8, hR.h9, hR.h10, hR.h11, hR.h12, hR.h13, hR.h14, hR.h15, hR.h16, hR.h17, hR.h18, hR.h20, hR.h22, hR.v5.set 6 (.int .i64 (n4 : Int))⟩⟩
          refine RegInv.Steps.cons (fun D a w hI hD hdep K hK => ?_) ?_
          · obtain ⟨u52, u53, u54, u55, u56, u57, u58, u59, u60, u61, u62, u63, u64, u65, u66, u67, u68, u69, u70, u71, u72, rfl, hR⟩ := hI
            rw [if_pos (by rfl)]
            go_simp
            exact hK.out _ _ ⟨_, _, _, _, _, _, _, _, _, _, _, _, _, _, _, _, _, _, _, _, _, rfl, ⟨hR.below, hR.h0, hR.h1, hR.h2, hR.h3, hR.h4, hR.h5, hR.h6, hR.h7, hR.h8, hR.h9, hR.h10, hR.h11, hR.h12, hR.h13, hR.h14, hR.h15, hR.h16, hR.h17, hR.h18, hR.h20, fun _ => rfl, hR.v5⟩⟩
          refine RegInv.Steps.cons (fun D a w hI hD hdep K hK => ?_) ?_
          · obtain ⟨u52, u53, u54, u55, u56, u57, u58, u59, u60, u61, u62, u63, u64, u65, u66, u67, u68, u69, u70, u71, u72, rfl, hR⟩ := hI
            have d22 : D 22 = true := hdep ⟨22, .data⟩ (by simp) rfl
            obtain rfl := hR.h22 d22
            have d17 : D 17 = true := hdep ⟨17, .data⟩ (by simp) rfl
            obtain rfl := hR.h17 d17
            have cc := hR.v5.cell 4
            simp only [List.getElem?_cons_zero, List.getElem?_cons_succ] at cc
            have fc := hR.v5.free 4
            rw [if_pos (by rfl)]
            go_simp
            exact hK.out _ _ ⟨_, _, _, _, _, _, _, _, _, _, _, _, _, _, _, _, _, _, _, _, _, rfl, ⟨hR.below.setCell hb5 _, hR.h0, hR.h1, hR.h2, hR.h3, hR.h4, hR.h5, hR.h6, hR.h7, hR.h8, hR.h9, hR.h10, hR.h11, hR.h12, hR.h13, hR.h14, hR.h15, hR.h16, hR.h17, hR.h18, hR.h20, hR.h22, hR.v5.set 4 (.int .i64 (n7 : Int))⟩⟩
          exact RegInv.Steps.nil

      case rest =>
        clear hv5 hbw
        obtain ⟨hv5, hbw⟩ := hcut
        obtain ⟨ga, gb⟩ := (GL.out.below hbw HS.out).c10
        have cx := (HX.out.below hbw HX.out.lt).cell 2
        simp only [List.getElem?_cons_zero, List.getElem?_cons_succ] at cx
        have hb := HW10.out
        go_upto_region 6 with (first | (go_at_call 53; with_reducible refine (G10.out _).mono ?_; rintro e w5 ⟨rfl, hb9⟩; have H5 := Aside0.mk (hv5.below' hb9); have B5 := Aside0.mk (hbw.trans (hb9.mono hbw.size)); have cc := H5.out.cell 9; simp only [List.getElem?_cons_zero, List.getElem?_cons_succ] at cc; have fc := H5.out.free 9))
        have h6 := H5.out.set 9 (.int .i64 (n10 : Int))
        have c6 := B5.out.setCell (p := ⟨b5, 9, none⟩) hb5 (.int .i64 (n10 : Int))
        obtain ⟨w6, hw6⟩ : ∃ w6, w5.setCell ⟨b5, 9, none⟩ (.int .i64 (n10 : Int)) = w6 := ⟨_, rfl⟩
        rw [hw6] at h6 c6 ⊢
        have H6 := Aside0.mk (show HoldsV 24 w6 b5 [.int .i64 (n0 : Int), .int .i64 (n1 : Int), .int .i64 (n2 : Int), .int .i64 (n3 : Int), .int .i64 (n7 : Int), .int .u32 (n9 : Int), .int .i64 (n4 : Int), .bool bS, .bool bT, .int .i64 (n10 : Int), .int .u32 (n8 : Int)] from h6)
        have C6 := Aside0.mk c6
        clear h6 c6 hw6 cc fc H5 B5 ga gb cx hv5 hbw hb
        obtain ⟨ga0, gb0⟩ := (GL.out.below C6.out HS.out).c0; obtain ⟨ga1, gb1⟩ := (GL.out.below C6.out HS.out).c1; obtain ⟨ga2, gb2⟩ := (GL.out.below C6.out HS.out).c2; obtain ⟨ga3, gb3⟩ := (GL.out.below C6.out HS.out).c3; obtain ⟨ga4, gb4⟩ := (GL.out.below C6.out HS.out).c4; obtain ⟨ga5, gb5⟩ := (GL.out.below C6.out HS.out).c5; obtain ⟨ga6, gb6⟩ := (GL.out.below C6.out HS.out).c6; obtain ⟨ga7, gb7⟩ := (GL.out.below C6.out HS.out).c7
        have cx := (HX.out.below C6.out HX.out.lt).cell 0
        simp only [List.getElem?_cons_zero, List.getElem?_cons_succ] at cx
        cases bA with
        | true =>
          have hA := HA.out
          go_upto_if 105 with fail
          refine (K8.out (w6.alloc _) w6.heap.size (heap_new _ _)).mono ?_
          rintro e w7 ⟨rfl, hb7⟩
          have C7 := Aside0.mk (C6.out.trans ((((Below.refl _ _).alloc (Nat.le_refl _) _).trans (hb7.mono (by simp only [World.alloc, Array.size_push]; omega))).mono C6.out.size))
          clear hb7
          go_upto_if 105 with fail
          clear hA
          go_wp2_with (first | ((with_reducible refine gate_store (t := 24) (p := 2) (v := .tmp 106) rfl ?_); refine wpList_store_row rfl 24 (.tmp 2) (.tmp 106) rfl br ([.int .i64 0, .int .i64 0, .int .i64 0, .int .i64 0, .int .i64 0, .int .u32 0, .int .i64 0, .bool false, .bool false, .int .i64 0, .int .u32 0] : List Value).toArray rfl rfl 24 _ (HR.out.below C7.out HR.out.lt) (by kernel_rfl) rfl (by kernel_rfl) ?_))
          obtain ⟨wz, hwz⟩ : ∃ wz, w7.setRow br ([.int .i64 0, .int .i64 0, .int .i64 0, .int .i64 0, .int .i64 0, .int .u32 0, .int .i64 0, .bool false, .bool false, .int .i64 0, .int .u32 0] : List Value).toArray = wz := ⟨_, rfl⟩
          have hz : HoldsV 24 wz br [.int .i64 0, .int .i64 0, .int .i64 0, .int .i64 0, .int .i64 0, .int .u32 0, .int .i64 0, .bool false, .bool false, .int .i64 0, .int .u32 0] := by rw [← hwz]; exact setRow_heap _ _ _ _ 24 (0, 0) (HR.out.below C7.out HR.out.lt)
          have hzb : Below w.heap.size w wz := by rw [← hwz]; exact below_setRow (HB.out.trans (C7.out.mono HB.out.size)) HBR.out _
          rw [hwz]
          clear hwz
          (try simp only [Exit.inBlock, Exit.then])
          refine bodyPost_ret (results_ct rfl _ _ br 24 ([.int .i64 0, .int .i64 0, .int .i64 0, .int .i64 0, .int .i64 0, .int .u32 0, .int .i64 0, .bool false, .bool false, .int .i64 0, .int .u32 0] : List Value).toArray (0, 0) _ rfl hz Tryd.underlying24 rfl (by kernel_rfl)) rfl ?_
          exact ⟨rfl, hzb⟩
        | false =>
          have hA := HA.out
          go_upto_if 105 with fail
          refine (K8.out (w6.alloc _) w6.heap.size (heap_new _ _)).mono ?_
          rintro e w7 ⟨rfl, hb7⟩
          have C7 := Aside0.mk (C6.out.trans ((((Below.refl _ _).alloc (Nat.le_refl _) _).trans (hb7.mono (by simp only [World.alloc, Array.size_push]; omega))).mono C6.out.size))
          have H7 := Aside0.mk (H6.out.below' (((Below.refl _ _).alloc (Nat.le_refl _) _).trans (hb7.mono (by simp only [World.alloc, Array.size_push]; omega))))
          clear hb7 cx ga0 ga1 ga2 ga3 ga4 ga5 ga6 ga7 gb0 gb1 gb2 gb3 gb4 gb5 gb6 gb7
          obtain ⟨ga, gb⟩ := (GL.out.below C7.out HS.out).c10
          have cx := (HX.out.below C7.out HX.out.lt).cell 2
          simp only [List.getElem?_cons_zero, List.getElem?_cons_succ] at cx
          go_upto_if 105 with fail
          refine (K1.out (w7.alloc _) w7.heap.size (heap_new _ _)).mono ?_
          rintro e w8 ⟨rfl, hb7⟩
          have C8 := Aside0.mk (C7.out.trans ((((Below.refl _ _).alloc (Nat.le_refl _) _).trans (hb7.mono (by simp only [World.alloc, Array.size_push]; omega))).mono C7.out.size))
          have H8 := Aside0.mk (H7.out.below' (((Below.refl _ _).alloc (Nat.le_refl _) _).trans (hb7.mono (by simp only [World.alloc, Array.size_push]; omega))))
          clear hb7 cx ga gb hA
          cases bB with
          | true =>
            have hB := HB0.out
            go_upto_if 105 with fail
            clear hB
            go_wp2_with (first | ((with_reducible refine gate_store (t := 24) (p := 2) (v := .tmp 106) rfl ?_); refine wpList_store_row rfl 24 (.tmp 2) (.tmp 106) rfl br ([.int .i64 0, .int .i64 0, .int .i64 0, .int .i64 0, .int .i64 0, .int .u32 0, .int .i64 0, .bool false, .bool false, .int .i64 0, .int .u32 0] : List Value).toArray rfl rfl 24 _ (HR.out.below C8.out HR.out.lt) (by kernel_rfl) rfl (by kernel_rfl) ?_))
            obtain ⟨wz, hwz⟩ : ∃ wz, w8.setRow br ([.int .i64 0, .int .i64 0, .int .i64 0, .int .i64 0, .int .i64 0, .int .u32 0, .int .i64 0, .bool false, .bool false, .int .i64 0, .int .u32 0] : List Value).toArray = wz := ⟨_, rfl⟩
            have hz : HoldsV 24 wz br [.int .i64 0, .int .i64 0, .int .i64 0, .int .i64 0, .int .i64 0, .int .u32 0, .int .i64 0, .bool false, .bool false, .int .i64 0, .int .u32 0] := by rw [← hwz]; exact setRow_heap _ _ _ _ 24 (0, 0) (HR.out.below C8.out HR.out.lt)
            have hzb : Below w.heap.size w wz := by rw [← hwz]; exact below_setRow (HB.out.trans (C8.out.mono HB.out.size)) HBR.out _
            rw [hwz]
            clear hwz
            (try simp only [Exit.inBlock, Exit.then])
            refine bodyPost_ret (results_ct rfl _ _ br 24 ([.int .i64 0, .int .i64 0, .int .i64 0, .int .i64 0, .int .i64 0, .int .u32 0, .int .i64 0, .bool false, .bool false, .int .i64 0, .int .u32 0] : List Value).toArray (0, 0) _ rfl hz Tryd.underlying24 rfl (by kernel_rfl)) rfl ?_
            exact ⟨rfl, hzb⟩
          | false =>
            have hB := HB0.out
            have c80 := H8.out.cell 0; have c81 := H8.out.cell 1; have c82 := H8.out.cell 2; have c83 := H8.out.cell 3; have c84 := H8.out.cell 4; have c85 := H8.out.cell 5; have c86 := H8.out.cell 6; have c87 := H8.out.cell 7; have c88 := H8.out.cell 8; have c89 := H8.out.cell 9; have c810 := H8.out.cell 10; simp only [List.getElem?_cons_zero, List.getElem?_cons_succ] at c80 c81 c82 c83 c84 c85 c86 c87 c88 c89 c810
            go_upto_if 105 with fail
            refine (KM.out _).mono ?_
            rintro e w9 ⟨rfl, hb7⟩
            have C9 := Aside0.mk (C8.out.trans (hb7.mono C8.out.size))
            have H9 := Aside0.mk (H8.out.below' hb7)
            clear hb7 c80 c81 c82 c83 c84 c85 c86 c87 c88 c89 c810
            cases fm with
            | false =>
              go_upto_if 105 with fail
              clear hB
              go_wp2_with (first | ((with_reducible refine gate_store (t := 24) (p := 2) (v := .tmp 106) rfl ?_); refine wpList_store_row rfl 24 (.tmp 2) (.tmp 106) rfl br ([.int .i64 0, .int .i64 0, .int .i64 0, .int .i64 0, .int .i64 0, .int .u32 0, .int .i64 0, .bool false, .bool false, .int .i64 0, .int .u32 0] : List Value).toArray rfl rfl 24 _ (HR.out.below C9.out HR.out.lt) (by kernel_rfl) rfl (by kernel_rfl) ?_))
              obtain ⟨wz, hwz⟩ : ∃ wz, w9.setRow br ([.int .i64 0, .int .i64 0, .int .i64 0, .int .i64 0, .int .i64 0, .int .u32 0, .int .i64 0, .bool false, .bool false, .int .i64 0, .int .u32 0] : List Value).toArray = wz := ⟨_, rfl⟩
              have hz : HoldsV 24 wz br [.int .i64 0, .int .i64 0, .int .i64 0, .int .i64 0, .int .i64 0, .int .u32 0, .int .i64 0, .bool false, .bool false, .int .i64 0, .int .u32 0] := by rw [← hwz]; exact setRow_heap _ _ _ _ 24 (0, 0) (HR.out.below C9.out HR.out.lt)
              have hzb : Below w.heap.size w wz := by rw [← hwz]; exact below_setRow (HB.out.trans (C9.out.mono HB.out.size)) HBR.out _
              rw [hwz]
              clear hwz
              (try simp only [Exit.inBlock, Exit.then])
              refine bodyPost_ret (results_ct rfl _ _ br 24 ([.int .i64 0, .int .i64 0, .int .i64 0, .int .i64 0, .int .i64 0, .int .u32 0, .int .i64 0, .bool false, .bool false, .int .i64 0, .int .u32 0] : List Value).toArray (0, 0) _ rfl hz Tryd.underlying24 rfl (by kernel_rfl)) rfl ?_
              exact ⟨rfl, hzb⟩
            | true =>
              have c90 := H9.out.cell 0; have c91 := H9.out.cell 1; have c92 := H9.out.cell 2; have c93 := H9.out.cell 3; have c94 := H9.out.cell 4; have c95 := H9.out.cell 5; have c96 := H9.out.cell 6; have c97 := H9.out.cell 7; have c98 := H9.out.cell 8; have c99 := H9.out.cell 9; have c910 := H9.out.cell 10; simp only [List.getElem?_cons_zero, List.getElem?_cons_succ] at c90 c91 c92 c93 c94 c95 c96 c97 c98 c99 c910
              go_upto_if 105 with fail
              clear hB
              go_wp2_with (first | ((with_reducible refine gate_store (t := 24) (p := 2) (v := .tmp 107) rfl ?_); refine wpList_store_row rfl 24 (.tmp 2) (.tmp 107) rfl br ([.int .i64 (n0 : Int), .int .i64 (n1 : Int), .int .i64 (n2 : Int), .int .i64 (n3 : Int), .int .i64 (n7 : Int), .int .u32 (n9 : Int), .int .i64 (n4 : Int), .bool bS, .bool bT, .int .i64 (n10 : Int), .int .u32 (n8 : Int)] : List Value).toArray rfl rfl 24 _ (HR.out.below C9.out HR.out.lt) (by kernel_rfl) rfl (by kernel_rfl) ?_))
              obtain ⟨wz, hwz⟩ : ∃ wz, w9.setRow br ([.int .i64 (n0 : Int), .int .i64 (n1 : Int), .int .i64 (n2 : Int), .int .i64 (n3 : Int), .int .i64 (n7 : Int), .int .u32 (n9 : Int), .int .i64 (n4 : Int), .bool bS, .bool bT, .int .i64 (n10 : Int), .int .u32 (n8 : Int)] : List Value).toArray = wz := ⟨_, rfl⟩
              have hz : HoldsV 24 wz br [.int .i64 (n0 : Int), .int .i64 (n1 : Int), .int .i64 (n2 : Int), .int .i64 (n3 : Int), .int .i64 (n7 : Int), .int .u32 (n9 : Int), .int .i64 (n4 : Int), .bool bS, .bool bT, .int .i64 (n10 : Int), .int .u32 (n8 : Int)] := by rw [← hwz]; exact setRow_heap _ _ _ _ 24 (0, 0) (HR.out.below C9.out HR.out.lt)
              have hzb : Below w.heap.size w wz := by rw [← hwz]; exact below_setRow (HB.out.trans (C9.out.mono HB.out.size)) HBR.out _
              rw [hwz]
              clear hwz
              (try simp only [Exit.inBlock, Exit.then])
              refine bodyPost_ret (results_ct rfl _ _ br 24 ([.int .i64 (n0 : Int), .int .i64 (n1 : Int), .int .i64 (n2 : Int), .int .i64 (n3 : Int), .int .i64 (n7 : Int), .int .u32 (n9 : Int), .int .i64 (n4 : Int), .bool bS, .bool bT, .int .i64 (n10 : Int), .int .u32 (n8 : Int)] : List Value).toArray (0, 0) _ rfl hz Tryd.underlying24 rfl (by kernel_rfl)) rfl ?_
              exact ⟨rfl, hzb⟩
end Go.Proofs.YthonkcldddfpnaaDoor.FrameG
