/- Whatever words come: they are the document's frame, or none: the walk of FrameGets. -/
import Derived.Test.YthonkcldddfpnaaDoorFrameS
import Derived.Test.YthonkcldddfpnaaDoorNear
import Derived.Deep.WholeRow
import Derived.ChangeKeysEq
namespace Go.Proofs.YthonkcldddfpnaaDoor.walkFrameGets
open Go.RowKit Go.Proofs.YthonkcldddfpnaaDoor.PFrameGets Go.Proofs.YthonkcldddfpnaaDoorW.PrintWords Go.Proofs.YthonkcldddfpnaaDoorW.PrintLast Go.Proofs.YthonkcldddfpnaaDoorW.PrintMore Go.Proofs.YthonkcldddfpnaaDoor.Aid Go.Proofs.YthonkcldddfpnaaDoor.Quiet Go.Proofs.YthonkcldddfpnaaDoor.Blk Go.Proofs.YthonkcldddfpnaaDoor.State Go.Proofs.YthonkcldddfpnaaDoor.Vals Go.Proofs.YthonkcldddfpnaaDoor.LaidFrame Go.Proofs.YthonkcldddfpnaaDoor.Near Go.Proofs.YthonkcldddfpnaaDoor.FieldMath Go.Proofs.YthonkcldddfpnaaDoor.FrameF Go.Proofs.YthonkcldddfpnaaDoor.FrameQ
set_option linter.unusedVariables false
set_option linter.unusedSimpArgs false
attribute [local go_sem] max2_int min2_int max_two min_two
theorem eqA24 (d : Nat) (w : World) (x0 y0 : Int) (x1 y1 : Int) (x2 y2 : Int) (x3 y3 : Int) (x4 y4 : Int) (x5 y5 : Int) (x6 y6 : Int) (x7 y7 : Bool) (x8 y8 : Bool) (x9 y9 : Int) (x10 y10 : Int) :
    (Op.equalIn (d + 2) 24 (.agg #[.int .i64 x0, .int .i64 x1, .int .i64 x2, .int .i64 x3, .int .i64 x4, .int .u32 x5, .int .i64 x6, .bool x7, .bool x8, .int .i64 x9, .int .u32 x10]) (.agg #[.int .i64 y0, .int .i64 y1, .int .i64 y2, .int .i64 y3, .int .i64 y4, .int .u32 y5, .int .i64 y6, .bool y7, .bool y8, .int .i64 y9, .int .u32 y10])).run Tryd.prog w = .ok (x0 == y0 && (x1 == y1 && (x2 == y2 && (x3 == y3 && (x4 == y4 && (x5 == y5 && (x6 == y6 && (x7 == y7 && (x8 == y8 && (x9 == y9 && (x10 == y10))))))))))) w := by
  refine eqA_of Tryd.underlying24 (by kernel_rfl) ?_
  refine eqf_cons (by rfl) (by go_simp; rfl) (by go_simp; rfl) (by go_simp) ?_
  refine eqf_cons (by rfl) (by go_simp; rfl) (by go_simp; rfl) (by go_simp) ?_
  refine eqf_cons (by rfl) (by go_simp; rfl) (by go_simp; rfl) (by go_simp) ?_
  refine eqf_cons (by rfl) (by go_simp; rfl) (by go_simp; rfl) (by go_simp) ?_
  refine eqf_cons (by rfl) (by go_simp; rfl) (by go_simp; rfl) (by go_simp) ?_
  refine eqf_cons (by rfl) (by go_simp; rfl) (by go_simp; rfl) (by go_simp) ?_
  refine eqf_cons (by rfl) (by go_simp; rfl) (by go_simp; rfl) (by go_simp) ?_
  refine eqf_cons (by rfl) (by go_simp; rfl) (by go_simp; rfl) (by go_simp) ?_
  refine eqf_cons (by rfl) (by go_simp; rfl) (by go_simp; rfl) (by go_simp) ?_
  refine eqf_cons (by rfl) (by go_simp; rfl) (by go_simp; rfl) (by go_simp) ?_
  exact eqf_last (by rfl) (by go_simp; rfl) (by go_simp; rfl) (by go_simp)
attribute [local go_sem high] eqA24
theorem wpList_store_new {P : Program} {ops : Array Oper} {rest : List Oper} {o : Oper} {a : Act} {Q : Exit → Act → World → Prop} {w : World} (hgd : o.guard = none) (ty : TypeId) (x y : Operand) (ho : o.op = .store ty x y)
    (g : Nat) (hgs : w.heap.size = g) (c cells : Array Value) (hx : a.eval x = .pointer (some ⟨g, 0, none⟩)) (hy : a.eval y = .agg cells) (hi : (P.info? ty).map (·.size) = some cells.size) (hold : c.size = cells.size) (h1 : cells.all (·.oneCell') = true)
    (h : wpList P ops Q rest (a.put o.dst undef) (w.alloc (.cells cells ty))) : wpList P ops Q (o :: rest) a (w.alloc (.cells c ty)) := by
  subst hgs
  refine wpList_store_row hgd ty x y ho _ cells hx hy ty c (heap_alloc_last w _) hi hold h1 ?_
  rw [World.setRow_alloc_new]
  exact h

theorem ref_get (x0 x1 x2 : Nat) (hx0 : x0 < 2 ^ 64) (hx1 : x1 < 2 ^ 64) (hx2 : x2 < 2 ^ 64) (W : World) :
    Calls Tryd.prog 19 #[.agg #[.int .u64 (x0 : Int), .int .u64 (x1 : Int), .int .u64 (x2 : Int)]] W fun r w' => r = .returned (.tuple (if FrameA.isF x0 x2 = true then #[.agg #[.int .i64 (getN x0 0 4 : Int), .int .i64 (getN x0 4 4 : Int), .int .i64 (getN x0 8 4 : Int), .int .i64 (getN x0 12 8 : Int), .int .i64 (getN x0 26 24 : Int), .int .u32 (getN x1 0 32 : Int), .int .i64 (getN x0 20 4 : Int), .bool ((getN x0 24 1 : Int) == 1), .bool ((getN x0 25 1 : Int) == 1), .int .i64 (getN x2 0 16 : Int), .int .u32 (getN x1 32 32 : Int)], .bool true] else #[.agg #[.int .i64 0, .int .i64 0, .int .i64 0, .int .i64 0, .int .i64 0, .int .u32 0, .int .i64 0, .bool false, .bool false, .int .i64 0, .int .u32 0], .bool false])) ∧ Below W.heap.size W w' := by
  have hn8 : getN x1 32 32 < 4294967296 := Nat.mod_lt _ (by decide)
  have hn9 : getN x1 0 32 < 4294967296 := Nat.mod_lt _ (by decide)
  have e9 : x1 % 4294967296 = getN x1 0 32 := by unfold getN; simp only [Nat.reducePow]; omega
  have e8 : x1 / 4294967296 = getN x1 32 32 := by unfold getN; simp only [Nat.reducePow]; omega
  have e10 : x2 % 65536 = getN x2 0 16 := by unfold getN; simp only [Nat.reducePow]; omega
  have hB : ∀ n : Nat, n < 2 → nB ((n : Int) == 1) = n := fun n h => by
    have : n = 0 ∨ n = 1 := by omega
    rcases this with rfl | rfl <;> rfl
  have hb := hB (getN x0 24 1) (Nat.mod_lt _ (by decide))
  have hd := hB (getN x0 25 1) (Nat.mod_lt _ (by decide))
  cases hok : okF (getN x0 0 4) (getN x0 4 4) (getN x0 8 4) (getN x0 12 8) (getN x0 26 24) (getN x0 20 4) (getN x2 0 16) with
  | true =>
    refine (FrameS.get_core x0 x1 x2 hx0 _ _ _ _ _ _ _ _ _ _ _ rfl rfl rfl rfl rfl rfl rfl rfl e9 e8 e10 hn8 _ _ rfl rfl _ _ _ true _ rfl hx1 hx2 (fun w => FrameR.ref_ok (getN x0 0 4) (getN x0 4 4) (getN x0 8 4) (getN x0 12 8) (getN x0 26 24) (getN x1 0 32) (getN x0 20 4) (getN x2 0 16) (getN x1 32 32) _ _ hok (by omega) (by omega) w) W).mono ?_
    rintro r w' ⟨hr, hbw⟩
    refine ⟨?_, hbw⟩
    rw [hr]
    have hl := word0_lt (b := ((getN x0 24 1 : Int) == 1)) (d := ((getN x0 25 1 : Int) == 1)) hok
    have hk : (true && (((word0 (getN x0 0 4) (getN x0 4 4) (getN x0 8 4) (getN x0 12 8) (getN x0 26 24) (getN x0 20 4) ((getN x0 24 1 : Int) == 1) ((getN x0 25 1 : Int) == 1) : Int) == (x0 : Int)) && ((((getN x1 0 32 + getN x1 32 32 * 4294967296 : Nat) : Int) == (x1 : Int)) && ((getN x2 0 16 : Int) == (x2 : Int))))) = FrameA.isF x0 x2 := by
      unfold FrameA.isF
      rw [hok, Bool.true_and, Bool.and_true]
      have a1 : (((getN x1 0 32 + getN x1 32 32 * 4294967296 : Nat) : Int) == (x1 : Int)) = true := by rw [beq_iff_eq, ← e9, ← e8]; omega
      have a2 : ((getN x2 0 16 : Int) == (x2 : Int)) = decide (x2 < 65536) := by rw [Bool.eq_iff_iff, beq_iff_eq, decide_eq_true_eq, ← e10]; omega
      have a0 : ((word0 (getN x0 0 4) (getN x0 4 4) (getN x0 8 4) (getN x0 12 8) (getN x0 26 24) (getN x0 20 4) ((getN x0 24 1 : Int) == 1) ((getN x0 25 1 : Int) == 1) : Int) == (x0 : Int)) = decide (x0 < 1125899906842624) := by
        rw [Bool.eq_iff_iff, beq_iff_eq, decide_eq_true_eq]
        constructor
        · intro h; omega
        · intro h; rw [back x0 h _ _ hb hd]
      rw [a0, a1, a2, Bool.true_and]
    rw [hk]
  | false =>
    have hf : decide (1 ≤ (getN x0 0 4 : Int) ∧ (getN x0 0 4 : Int) ≤ 10 ∧ 0 ≤ (getN x0 4 4 : Int) ∧ (getN x0 4 4 : Int) ≤ 3 ∧ 0 ≤ (getN x0 8 4 : Int) ∧ (getN x0 8 4 : Int) ≤ 3 ∧ 0 ≤ (getN x0 12 8 : Int) ∧ (getN x0 12 8 : Int) ≤ 15 ∧ 0 ≤ (getN x0 26 24 : Int) ∧ (getN x0 26 24 : Int) ≤ 16777215 ∧ 0 ≤ (getN x0 20 4 : Int) ∧ (getN x0 20 4 : Int) ≤ 15 ∧ 0 ≤ (getN x2 0 16 : Int) ∧ (getN x2 0 16 : Int) ≤ 65535) = false := by
      have := of_decide_eq_false hok
      exact decide_eq_false (by omega)
    refine (FrameS.get_core x0 x1 x2 hx0 _ _ _ _ _ _ _ _ _ _ _ rfl rfl rfl rfl rfl rfl rfl rfl e9 e8 e10 hn8 _ _ rfl rfl _ _ _ false _ rfl hx1 hx2 (fun w => FrameR.ref_bad (getN x0 0 4) (getN x0 4 4) (getN x0 8 4) (getN x0 12 8) (getN x0 26 24) (getN x1 0 32) (getN x0 20 4) (getN x2 0 16) (getN x1 32 32) _ _ hf w) W).mono ?_
    rintro r w' ⟨hr, hbw⟩
    refine ⟨?_, hbw⟩
    rw [hr]
    have hk : FrameA.isF x0 x2 = false := by unfold FrameA.isF; rw [hok, Bool.and_false, Bool.and_false]
    rw [hk]
    rfl

theorem both (q0 q1 q2 : Nat) (h0 : q0 < 2 ^ 64) (h1 : q1 < 2 ^ 64) (h2 : q2 < 2 ^ 64) : ∃ (g0 g1 g2 g3 g4 g5 g6 : Int) (bb dd : Bool) (g9 g10 er : Int) (isB : Bool), (er = 0 ∧ isB = true ∨ er = 2 ∧ isB = false) ∧
    (∀ w, Cells w → Calls Tryd.prog 16 #[.agg #[.int .u64 (q0 : Int), .int .u64 (q1 : Int), .int .u64 (q2 : Int)]] w fun r w' => r = .returned (.tuple #[.agg #[.int .i64 g0, .int .i64 g1, .int .i64 g2, .int .i64 g3, .int .i64 g4, .int .u32 g5, .int .i64 g6, .bool bb, .bool dd, .int .i64 g9, .int .u32 g10], .int .i64 er]) ∧ Below w.heap.size w w') ∧
    (∀ w, Calls Tryd.prog 19 #[.agg #[.int .u64 (q0 : Int), .int .u64 (q1 : Int), .int .u64 (q2 : Int)]] w fun r w' => r = .returned (.tuple #[.agg #[.int .i64 g0, .int .i64 g1, .int .i64 g2, .int .i64 g3, .int .i64 g4, .int .u32 g5, .int .i64 g6, .bool bb, .bool dd, .int .i64 g9, .int .u32 g10], .bool isB]) ∧ Below w.heap.size w w') := by
  cases hF : FrameA.isF q0 q2 with
  | true =>
    refine ⟨(getN q0 0 4 : Int), (getN q0 4 4 : Int), (getN q0 8 4 : Int), (getN q0 12 8 : Int), (getN q0 26 24 : Int), (getN q1 0 32 : Int), (getN q0 20 4 : Int), ((getN q0 24 1 : Int) == 1), ((getN q0 25 1 : Int) == 1), (getN q2 0 16 : Int), (getN q1 32 32 : Int), 0, true, Or.inl ⟨rfl, rfl⟩, fun w g => ?_, fun w => ?_⟩
    · have h := FrameA.get_any q0 q1 q2 h0 h1 h2 w g
      rw [hF] at h
      exact h
    · have h := ref_get q0 q1 q2 h0 h1 h2 w
      rw [hF] at h
      exact h
  | false =>
    refine ⟨0, 0, 0, 0, 0, 0, 0, false, false, 0, 0, 2, false, Or.inr ⟨rfl, rfl⟩, fun w g => ?_, fun w => ?_⟩
    · have h := FrameA.get_any q0 q1 q2 h0 h1 h2 w g
      rw [hF] at h
      exact h
    · have h := ref_get q0 q1 q2 h0 h1 h2 w
      rw [hF] at h
      exact h

theorem pick3 (y0 y1 y2 i : Nat) (hy0 : y0 < 2 ^ 64) (hy1 : y1 < 2 ^ 64) (hy2 : y2 < 2 ^ 64) (hi : i < 3) : ∃ yi : Nat, yi < 2 ^ 64 ∧ ([.int .u64 (y0 : Int), .int .u64 (y1 : Int), .int .u64 (y2 : Int)] : List Value)[i]? = some (.int .u64 (yi : Int)) ∧ ∀ v : Nat, v < 2 ^ 64 → ∃ z0 z1 z2 : Nat, z0 < 2 ^ 64 ∧ z1 < 2 ^ 64 ∧ z2 < 2 ^ 64 ∧ ([.int .u64 (y0 : Int), .int .u64 (y1 : Int), .int .u64 (y2 : Int)] : List Value).set i (.int .u64 (v : Int)) = [.int .u64 (z0 : Int), .int .u64 (z1 : Int), .int .u64 (z2 : Int)] := by
  have h : i = 0 ∨ i = 1 ∨ i = 2 := by omega
  rcases h with rfl | rfl | rfl
  · exact ⟨y0, hy0, rfl, fun v hv => ⟨v, y1, y2, hv, hy1, hy2, rfl⟩⟩
  · exact ⟨y1, hy1, rfl, fun v hv => ⟨y0, v, y2, hy0, hv, hy2, rfl⟩⟩
  · exact ⟨y2, hy2, rfl, fun v hv => ⟨y0, y1, v, hy0, hy1, hv, rfl⟩⟩
set_option maxHeartbeats 8000000 in
set_option maxRecDepth 100000 in
theorem core (K C V S G ca Tr : Int) (b d : Bool) (Q u aa : Int) (xk xc xv xs xg xt xq : Int) (y0 y1 y2 w0' w1' w2' a kk i m sv : Nat) (hy0 : y0 < 2 ^ 64) (hy1 : y1 < 2 ^ 64) (hy2 : y2 < 2 ^ 64) (hw0 : w0' < 2 ^ 64) (hw1 : w1' < 2 ^ 64) (hw2 : w2' < 2 ^ 64)
    (ha : Go.bits .and .i64 aa 255 = (a : Int)) (hkk : Int.tmod (a : Int) 192 = (kk : Int)) (hk : kk < 192) (hi : Int.tdiv (kk : Int) 64 = (i : Int)) (hi3 : i < 3) (hm : Int.tmod (kk : Int) 64 = (m : Int)) (hm64 : m < 64) (hsv : IntKind.u64.wrap ((2 : Int) ^ m) = (sv : Int)) (hsb : sv < 2 ^ 64)
    (NEAR : ∀ w, Calls Tryd.prog 13 #[.agg #[.int .i64 K, .int .i64 C, .int .i64 V, .int .i64 S, .int .i64 G, .int .u32 ca, .int .i64 Tr, .bool b, .bool d, .int .i64 Q, .int .u32 u], .int .i64 0] w fun e w' => e = .returned (.agg #[.int .i64 xk, .int .i64 xc, .int .i64 xv, .int .i64 xs, .int .i64 xg, .int .u32 ca, .int .i64 xt, .bool b, .bool d, .int .i64 xq, .int .u32 u]) ∧ Below w.heap.size w w')
    (REF : ∀ w, Calls Tryd.prog 15 #[.agg #[.int .i64 xk, .int .i64 xc, .int .i64 xv, .int .i64 xs, .int .i64 xg, .int .u32 ca, .int .i64 xt, .bool b, .bool d, .int .i64 xq, .int .u32 u]] w fun e w' => e = .returned (.tuple #[.agg #[.int .u64 (y0 : Int), .int .u64 (y1 : Int), .int .u64 (y2 : Int)], .bool true]) ∧ Below w.heap.size w w') (W : World) (gl : Cells W) :
    Calls Tryd.prog 4 #[.agg #[.int .i64 K, .int .i64 C, .int .i64 V, .int .i64 S, .int .i64 G, .int .u32 ca, .int .i64 Tr, .bool b, .bool d, .int .i64 Q, .int .u32 u], .int .i64 aa, .agg #[.int .u64 (w0' : Int), .int .u64 (w1' : Int), .int .u64 (w2' : Int)]] W fun e W' => e = .returned (.bool true) ∧ Below W.heap.size W W' := by
  have KN := Aside0.mk NEAR
  have KR := Aside0.mk REF
  have GLW := Aside0.mk gl
  have HY := Aside0.mk (And.intro hy0 (And.intro hy1 hy2))
  have HWW := Aside0.mk (And.intro hw0 (And.intro hw1 hw2))
  have HM := Aside0.mk (And.intro hsb hi3)
  clear NEAR REF gl hy0 hy1 hy2 hw0 hw1 hw2 hsb
  have hu24 := Tryd.underlying24
  have hu28 := Tryd.underlying28
  go_enter Tryd.func4, Tryd.ntmps4
  go_upto_region 1 with fail
  obtain ⟨b3, hb3⟩ : ∃ b, W.heap.size = b := ⟨_, rfl⟩
  obtain ⟨b5, hb5⟩ : ∃ b, b3 + 1 = b := ⟨_, rfl⟩
  rw [hb3, hb5]
  obtain ⟨wa, hwa⟩ : ∃ w0, ((W.alloc (.cells #[.int .i64 K, .int .i64 C, .int .i64 V, .int .i64 S, .int .i64 G, .int .u32 ca, .int .i64 Tr, .bool b, .bool d, .int .i64 Q, .int .u32 u] 24)).alloc (.cells #[.int .u64 (w0' : Int), .int .u64 (w1' : Int), .int .u64 (w2' : Int)] 28)) = w0 := ⟨_, rfl⟩
  have HA := Aside0.mk (show HoldsV 24 wa b3 [.int .i64 K, .int .i64 C, .int .i64 V, .int .i64 S, .int .i64 G, .int .u32 ca, .int .i64 Tr, .bool b, .bool d, .int .i64 Q, .int .u32 u] by rw [← hwa, ← hb3]; exact heap_old (heap_new _ _))
  have H5 := Aside0.mk (show HoldsV 28 wa b5 [.int .u64 (w0' : Int), .int .u64 (w1' : Int), .int .u64 (w2' : Int)] by rw [← hwa, ← hb5, ← hb3]; exact heap_new' (w := W.alloc _) _ (Array.size_push ..))
  have BA := Aside0.mk (show Below W.heap.size W wa by rw [← hwa]; exact ((Below.refl _ _).alloc (Nat.le_refl _) _).alloc (by simp only [World.alloc, Array.size_push]; omega) _)
  rw [hwa]
  clear hwa hb3 hb5
  have cx0 := HA.out.cell 0; have cx1 := HA.out.cell 1; have cx2 := HA.out.cell 2; have cx3 := HA.out.cell 3; have cx4 := HA.out.cell 4; have cx5 := HA.out.cell 5; have cx6 := HA.out.cell 6; have cx7 := HA.out.cell 7; have cx8 := HA.out.cell 8; have cx9 := HA.out.cell 9; have cx10 := HA.out.cell 10; simp only [List.getElem?_cons_zero, List.getElem?_cons_succ] at cx0 cx1 cx2 cx3 cx4 cx5 cx6 cx7 cx8 cx9 cx10
  go_upto_if 14 with fail
  refine (KN.out _).mono ?_
  rintro e w1 ⟨rfl, hb⟩
  have B1 := Aside0.mk (BA.out.trans (hb.mono BA.out.size))
  have H51 := Aside0.mk (H5.out.below' hb)
  clear hb BA H5 HA cx0 cx1 cx2 cx3 cx4 cx5 cx6 cx7 cx8 cx9 cx10
  go_upto_if 14 with fail
  refine (KR.out _).mono ?_
  rintro e w2 ⟨rfl, hb⟩
  have B2 := Aside0.mk (B1.out.trans (hb.mono B1.out.size))
  have H52 := Aside0.mk (H51.out.below' hb)
  clear hb B1 H51
  go_upto_region 3 with (first | ((with_reducible refine gate_store (t := 28) (p := 7) (v := .tmp 18) rfl ?_); refine wpList_store_new rfl 28 (.tmp 7) (.tmp 18) rfl _ rfl _ ([.int .u64 (y0 : Int), .int .u64 (y1 : Int), .int .u64 (y2 : Int)] : List Value).toArray rfl rfl (by kernel_rfl) rfl (by kernel_rfl) ?_))
  obtain ⟨b7, hb7⟩ : ∃ x, w2.heap.size = x := ⟨_, rfl⟩
  have H7 := Aside0.mk (show HoldsV 28 (w2.alloc (.cells ([.int .u64 (y0 : Int), .int .u64 (y1 : Int), .int .u64 (y2 : Int)] : List Value).toArray 28)) b7 [.int .u64 (y0 : Int), .int .u64 (y1 : Int), .int .u64 (y2 : Int)] by rw [← hb7]; exact heap_new _ _)
  have H53 := Aside0.mk (show HoldsV 28 (w2.alloc (.cells ([.int .u64 (y0 : Int), .int .u64 (y1 : Int), .int .u64 (y2 : Int)] : List Value).toArray 28)) b5 [.int .u64 (w0' : Int), .int .u64 (w1' : Int), .int .u64 (w2' : Int)] from heap_old H52.out)
  have B3 := Aside0.mk (B2.out.alloc B2.out.size (.cells ([.int .u64 (y0 : Int), .int .u64 (y1 : Int), .int .u64 (y2 : Int)] : List Value).toArray 28))
  have HB7 := Aside0.mk (show W.heap.size ≤ b7 ∧ b5 ≠ b7 by rw [← hb7]; exact ⟨B2.out.size, Nat.ne_of_lt H52.out.lt⟩)
  obtain ⟨w3, hw3⟩ : ∃ x, w2.alloc (.cells ([.int .u64 (y0 : Int), .int .u64 (y1 : Int), .int .u64 (y2 : Int)] : List Value).toArray 28) = x := ⟨_, rfl⟩
  rw [hw3] at H7 H53 B3 ⊢
  rw [hb7]
  clear hw3 hb7 B2 H52 ha hkk
  obtain ⟨yi, hyi, hget, hset⟩ := pick3 y0 y1 y2 i HY.out.1 HY.out.2.1 HY.out.2.2 HM.out.2
  have cc := H7.out.cell i
  rw [hget] at cc
  have fc := H7.out.free i
  have hx : Go.bits .xor .u64 (yi : Int) (sv : Int) = ((yi ^^^ sv : Nat) : Int) := xor_u64 yi sv hyi HM.out.1
  obtain ⟨xv', hxv⟩ : ∃ x, yi ^^^ sv = x := ⟨_, rfl⟩
  have hxb : xv' < 2 ^ 64 := by rw [← hxv]; exact Nat.xor_lt_two_pow hyi HM.out.1
  rw [hxv] at hx
  obtain ⟨z0, z1, z2, hz0, hz1, hz2, hzz⟩ := hset xv' hxb
  have HZZ := Aside0.mk hzz
  have HZB := Aside0.mk (And.intro hz0 (And.intro hz1 hz2))
  have hwm : IntKind.u64.wrap (m : Int) = (m : Int) := wrap_u64_in _ (by omega) (by omega)
  have hi3' : (i : Int) < 3 := by omega
  clear hxv hxb hz0 hz1 hz2 hzz hset hget hyi
  go_upto_region 4 with fail
  have h7 := H7.out.set i (.int .u64 (xv' : Int))
  rw [HZZ.out] at h7
  have h5 := H53.out.other (p := ⟨b7, i, none⟩) (.int .u64 (xv' : Int)) HB7.out.2
  have hbb := B3.out.setCell (p := ⟨b7, i, none⟩) HB7.out.1 (.int .u64 (xv' : Int))
  obtain ⟨w4, hw4⟩ : ∃ x, w3.setCell ⟨b7, i, none⟩ (.int .u64 (xv' : Int)) = x := ⟨_, rfl⟩
  rw [hw4] at h7 h5 hbb ⊢
  have H74 := Aside0.mk h7
  have H54 := Aside0.mk h5
  have B4 := Aside0.mk hbb
  clear hw4 h7 h5 hbb cc fc hx hwm hi3' H7 H53 B3 HZZ
  go_upto_if 35 with fail
  obtain ⟨tb, htb⟩ : ∃ tb, (Go.bits .and .i64 aa 768 == 0) = tb := ⟨_, rfl⟩
  rw [htb]
  clear htb
  go_cut [] from 14 to 36 (fun wx => ∃ z0 z1 z2 : Nat, (z0 < 2 ^ 64 ∧ z1 < 2 ^ 64 ∧ z2 < 2 ^ 64) ∧ HoldsV 28 wx b7 [.int .u64 (z0 : Int), .int .u64 (z1 : Int), .int .u64 (z2 : Int)] ∧ Below W.heap.size W wx)
  case first =>
    cases tb with
    | true =>
      have cw0 := H54.out.cell 0; have cw1 := H54.out.cell 1; have cw2 := H54.out.cell 2; simp only [List.getElem?_cons_zero, List.getElem?_cons_succ] at cw0 cw1 cw2
      go_wp2_with (first | ((with_reducible refine gate_store (t := 28) (p := 7) (v := .tmp 36) rfl ?_); refine wpList_store_row rfl 28 (.tmp 7) (.tmp 36) rfl b7 ([.int .u64 (w0' : Int), .int .u64 (w1' : Int), .int .u64 (w2' : Int)] : List Value).toArray rfl rfl 28 _ H74.out (by kernel_rfl) rfl (by kernel_rfl) ?_))
      go_meet
      exact ⟨_, _, _, HWW.out, setRow_heap _ _ _ _ 28 (0, 0) H74.out, below_setRow B4.out HB7.out.1 _⟩
    | false =>
      go_wp2_with fail
      go_meet
      exact ⟨_, _, _, HZB.out, H74.out, B4.out⟩
  case rest =>
    clear H74 H54 B4 HZB
    obtain ⟨q0, q1, q2, hq, h7, hbw⟩ := hcut
    have HQ := Aside0.mk hq
    have H7 := Aside0.mk h7
    have B5 := Aside0.mk hbw
    obtain ⟨g0, g1, g2, g3, g4, g5, g6, bb, dd, g9, g10, er, isB, hc, kg, ks⟩ := both q0 q1 q2 hq.1 hq.2.1 hq.2.2
    have KG := Aside0.mk kg
    have KS := Aside0.mk ks
    clear hq hbw kg ks
    have cq0 := H7.out.cell 0; have cq1 := H7.out.cell 1; have cq2 := H7.out.cell 2; simp only [List.getElem?_cons_zero, List.getElem?_cons_succ] at cq0 cq1 cq2
    clear h7
    go_upto_if 37 with fail
    refine (KG.out _ (GLW.out.below B5.out GLW.out.size)).mono ?_
    rintro e w6 ⟨rfl, hb⟩
    have B6 := Aside0.mk (B5.out.trans (hb.mono B5.out.size))
    have H76 := Aside0.mk (H7.out.below' hb)
    clear hb B5 H7 cq0 cq1 cq2
    go_upto_region 7 with (first | ((with_reducible refine gate_store (t := 24) (p := 10) (v := .tmp 40) rfl ?_); refine wpList_store_new rfl 24 (.tmp 10) (.tmp 40) rfl _ rfl _ ([.int .i64 g0, .int .i64 g1, .int .i64 g2, .int .i64 g3, .int .i64 g4, .int .u32 g5, .int .i64 g6, .bool bb, .bool dd, .int .i64 g9, .int .u32 g10] : List Value).toArray rfl rfl (by kernel_rfl) rfl (by kernel_rfl) ?_))
    obtain ⟨b10, hb0⟩ : ∃ x, w6.heap.size = x := ⟨_, rfl⟩
    have H10 := Aside0.mk (show HoldsV 24 (w6.alloc (.cells ([.int .i64 g0, .int .i64 g1, .int .i64 g2, .int .i64 g3, .int .i64 g4, .int .u32 g5, .int .i64 g6, .bool bb, .bool dd, .int .i64 g9, .int .u32 g10] : List Value).toArray 24)) b10 [.int .i64 g0, .int .i64 g1, .int .i64 g2, .int .i64 g3, .int .i64 g4, .int .u32 g5, .int .i64 g6, .bool bb, .bool dd, .int .i64 g9, .int .u32 g10] by rw [← hb0]; exact heap_new _ _)
    have H77 := Aside0.mk (show HoldsV 28 (w6.alloc (.cells ([.int .i64 g0, .int .i64 g1, .int .i64 g2, .int .i64 g3, .int .i64 g4, .int .u32 g5, .int .i64 g6, .bool bb, .bool dd, .int .i64 g9, .int .u32 g10] : List Value).toArray 24)) b7 [.int .u64 (q0 : Int), .int .u64 (q1 : Int), .int .u64 (q2 : Int)] from heap_old H76.out)
    have B7 := Aside0.mk (B6.out.alloc B6.out.size (.cells ([.int .i64 g0, .int .i64 g1, .int .i64 g2, .int .i64 g3, .int .i64 g4, .int .u32 g5, .int .i64 g6, .bool bb, .bool dd, .int .i64 g9, .int .u32 g10] : List Value).toArray 24))
    obtain ⟨w7, hw⟩ : ∃ x, w6.alloc (.cells ([.int .i64 g0, .int .i64 g1, .int .i64 g2, .int .i64 g3, .int .i64 g4, .int .u32 g5, .int .i64 g6, .bool bb, .bool dd, .int .i64 g9, .int .u32 g10] : List Value).toArray 24) = x := ⟨_, rfl⟩
    rw [hw] at H10 H77 B7 ⊢
    rw [hb0]
    clear hb0 hw B6 H76
    have cr0 := H77.out.cell 0; have cr1 := H77.out.cell 1; have cr2 := H77.out.cell 2; simp only [List.getElem?_cons_zero, List.getElem?_cons_succ] at cr0 cr1 cr2
    go_upto_if 42 with fail
    refine (KS.out _).mono ?_
    rintro e w8 ⟨rfl, hb⟩
    have B8 := Aside0.mk (B7.out.trans (hb.mono B7.out.size))
    have H10a := Aside0.mk (H10.out.below' hb)
    clear hb B7 H10 H77 cr0 cr1 cr2
    go_upto_region 8 with (first | ((with_reducible refine gate_store (t := 24) (p := 12) (v := .tmp 45) rfl ?_); refine wpList_store_new rfl 24 (.tmp 12) (.tmp 45) rfl _ rfl _ ([.int .i64 g0, .int .i64 g1, .int .i64 g2, .int .i64 g3, .int .i64 g4, .int .u32 g5, .int .i64 g6, .bool bb, .bool dd, .int .i64 g9, .int .u32 g10] : List Value).toArray rfl rfl (by kernel_rfl) rfl (by kernel_rfl) ?_))
    obtain ⟨b12, hb0⟩ : ∃ x, w8.heap.size = x := ⟨_, rfl⟩
    have H12 := Aside0.mk (show HoldsV 24 (w8.alloc (.cells ([.int .i64 g0, .int .i64 g1, .int .i64 g2, .int .i64 g3, .int .i64 g4, .int .u32 g5, .int .i64 g6, .bool bb, .bool dd, .int .i64 g9, .int .u32 g10] : List Value).toArray 24)) b12 [.int .i64 g0, .int .i64 g1, .int .i64 g2, .int .i64 g3, .int .i64 g4, .int .u32 g5, .int .i64 g6, .bool bb, .bool dd, .int .i64 g9, .int .u32 g10] by rw [← hb0]; exact heap_new _ _)
    have H10b := Aside0.mk (show HoldsV 24 (w8.alloc (.cells ([.int .i64 g0, .int .i64 g1, .int .i64 g2, .int .i64 g3, .int .i64 g4, .int .u32 g5, .int .i64 g6, .bool bb, .bool dd, .int .i64 g9, .int .u32 g10] : List Value).toArray 24)) b10 [.int .i64 g0, .int .i64 g1, .int .i64 g2, .int .i64 g3, .int .i64 g4, .int .u32 g5, .int .i64 g6, .bool bb, .bool dd, .int .i64 g9, .int .u32 g10] from heap_old H10a.out)
    have B9 := Aside0.mk (B8.out.alloc B8.out.size (.cells ([.int .i64 g0, .int .i64 g1, .int .i64 g2, .int .i64 g3, .int .i64 g4, .int .u32 g5, .int .i64 g6, .bool bb, .bool dd, .int .i64 g9, .int .u32 g10] : List Value).toArray 24))
    obtain ⟨w9, hw⟩ : ∃ x, w8.alloc (.cells ([.int .i64 g0, .int .i64 g1, .int .i64 g2, .int .i64 g3, .int .i64 g4, .int .u32 g5, .int .i64 g6, .bool bb, .bool dd, .int .i64 g9, .int .u32 g10] : List Value).toArray 24) = x := ⟨_, rfl⟩
    rw [hw] at H12 H10b B9 ⊢
    rw [hb0]
    clear hb0 hw B8 H10a
    go_wp2_with fail
    refine (FrameA.awake_calls _ (GLW.out.below B9.out GLW.out.size)).mono ?_
    rintro e w10 ⟨rfl, hb⟩
    have BC := Aside0.mk (B9.out.trans (hb.mono B9.out.size))
    have h10 := H10b.out.below' hb
    have h12 := H12.out.below' hb
    clear hb B9 H10b H12
    have cs0 := h10.cell 0; have cs1 := h10.cell 1; have cs2 := h10.cell 2; have cs3 := h10.cell 3; have cs4 := h10.cell 4; have cs5 := h10.cell 5; have cs6 := h10.cell 6; have cs7 := h10.cell 7; have cs8 := h10.cell 8; have cs9 := h10.cell 9; have cs10 := h10.cell 10; simp only [List.getElem?_cons_zero, List.getElem?_cons_succ] at cs0 cs1 cs2 cs3 cs4 cs5 cs6 cs7 cs8 cs9 cs10
    have ct0 := h12.cell 0; have ct1 := h12.cell 1; have ct2 := h12.cell 2; have ct3 := h12.cell 3; have ct4 := h12.cell 4; have ct5 := h12.cell 5; have ct6 := h12.cell 6; have ct7 := h12.cell 7; have ct8 := h12.cell 8; have ct9 := h12.cell 9; have ct10 := h12.cell 10; simp only [List.getElem?_cons_zero, List.getElem?_cons_succ] at ct0 ct1 ct2 ct3 ct4 ct5 ct6 ct7 ct8 ct9 ct10
    have eg0 : (g0 == g0) = true := beq_self_eq_true _; have eg1 : (g1 == g1) = true := beq_self_eq_true _; have eg2 : (g2 == g2) = true := beq_self_eq_true _; have eg3 : (g3 == g3) = true := beq_self_eq_true _; have eg4 : (g4 == g4) = true := beq_self_eq_true _; have eg5 : (g5 == g5) = true := beq_self_eq_true _; have eg6 : (g6 == g6) = true := beq_self_eq_true _; have ebb : (bb == bb) = true := beq_self_eq_true _; have edd : (dd == dd) = true := beq_self_eq_true _; have eg9 : (g9 == g9) = true := beq_self_eq_true _; have eg10 : (g10 == g10) = true := beq_self_eq_true _
    rcases hc with ⟨rfl, rfl⟩ | ⟨rfl, rfl⟩
    · go_wp2_with fail
      go_ret
      exact ⟨rfl, BC.out⟩
    · go_wp2_with fail
      go_ret
      exact ⟨rfl, BC.out⟩
theorem walk (a0_0 : Int) (a0_1 : Int) (a0_2 : Int) (a0_3 : Int) (a0_4 : Int) (a0_5 : Int) (a0_6 : Int) (a0_7 : Bool) (a0_8 : Bool) (a0_9 : Int) (a0_10 : Int) (a1 : Int) (a2_0 : Int) (a2_1 : Int) (a2_2 : Int) (W : World) (w0_0 : (Lit.int .i64 a0_0).wf = true) (w0_1 : (Lit.int .i64 a0_1).wf = true) (w0_2 : (Lit.int .i64 a0_2).wf = true) (w0_3 : (Lit.int .i64 a0_3).wf = true) (w0_4 : (Lit.int .i64 a0_4).wf = true) (w0_5 : (Lit.int .u32 a0_5).wf = true) (w0_6 : (Lit.int .i64 a0_6).wf = true) (w0_9 : (Lit.int .i64 a0_9).wf = true) (w0_10 : (Lit.int .u32 a0_10).wf = true) (w1 : (Lit.int .i64 a1).wf = true) (w2_0 : (Lit.int .u64 a2_0).wf = true) (w2_1 : (Lit.int .u64 a2_1).wf = true) (w2_2 : (Lit.int .u64 a2_2).wf = true) (gl : LaidFrame.Cells W) :
    Calls Tryd.prog 4 #[.agg #[.int .i64 a0_0, .int .i64 a0_1, .int .i64 a0_2, .int .i64 a0_3, .int .i64 a0_4, .int .u32 a0_5, .int .i64 a0_6, .bool a0_7, .bool a0_8, .int .i64 a0_9, .int .u32 a0_10], .int .i64 a1, .agg #[.int .u64 a2_0, .int .u64 a2_1, .int .u64 a2_2]] W fun e W' => e = .returned (.bool true) ∧ Below W.heap.size W W' := by
  obtain ⟨kn, hkn⟩ : ∃ n : Nat, a0_0 % 256 = (n : Int) := ⟨(a0_0 % 256).toNat, by omega⟩
  obtain ⟨c1, hc1⟩ : ∃ n : Nat, a0_1 % 4 = (n : Int) := ⟨(a0_1 % 4).toNat, by omega⟩
  obtain ⟨v1, hv1⟩ : ∃ n : Nat, a0_2 % 4 = (n : Int) := ⟨(a0_2 % 4).toNat, by omega⟩
  obtain ⟨s1, hs1⟩ : ∃ n : Nat, a0_3 % 16 = (n : Int) := ⟨(a0_3 % 16).toNat, by omega⟩
  obtain ⟨g1, hg1⟩ : ∃ n : Nat, a0_4 % 16777216 = (n : Int) := ⟨(a0_4 % 16777216).toNat, by omega⟩
  obtain ⟨t1, ht1⟩ : ∃ n : Nat, a0_6 % 16 = (n : Int) := ⟨(a0_6 % 16).toNat, by omega⟩
  obtain ⟨q1, hq1⟩ : ∃ n : Nat, a0_9 % 65536 = (n : Int) := ⟨(a0_9 % 65536).toNat, by omega⟩
  have hu : 0 ≤ a0_10 ∧ a0_10 < 4294967296 := by simp [Lit.wf, IntKind.min, IntKind.max, IntKind.signed, IntKind.bits] at w0_10; omega
  have hca : 0 ≤ a0_5 ∧ a0_5 < 4294967296 := by simp [Lit.wf, IntKind.min, IntKind.max, IntKind.signed, IntKind.bits] at w0_5; omega
  have wf64 : ∀ x : Int, (Lit.int .u64 x).wf = true → 0 ≤ x ∧ x < 18446744073709551616 := fun x h => by simp [Lit.wf, IntKind.min, IntKind.max, IntKind.signed, IntKind.bits] at h; omega
  have h20 := wf64 _ w2_0
  have h21 := wf64 _ w2_1
  have h22 := wf64 _ w2_2
  obtain ⟨un, rfl⟩ := Int.eq_ofNat_of_zero_le hu.1
  obtain ⟨can, rfl⟩ := Int.eq_ofNat_of_zero_le hca.1
  obtain ⟨m0, rfl⟩ := Int.eq_ofNat_of_zero_le h20.1
  obtain ⟨m1, rfl⟩ := Int.eq_ofNat_of_zero_le h21.1
  obtain ⟨m2, rfl⟩ := Int.eq_ofNat_of_zero_le h22.1
  obtain ⟨a, ha⟩ : ∃ n : Nat, a1 % 256 = (n : Int) := ⟨(a1 % 256).toNat, by omega⟩
  have hok : okF (kn % 10 + 1) c1 v1 s1 g1 t1 q1 = true := decide_eq_true (by omega)
  have hp : 2 ^ (a % 192 % 64) < 2 ^ 64 := Nat.pow_lt_pow_right (by decide) (by omega)
  refine core a0_0 a0_1 a0_2 a0_3 a0_4 can a0_6 a0_7 a0_8 a0_9 un a1 ((kn % 10 + 1 : Nat) : Int) c1 v1 s1 g1 t1 q1 (word0 (kn % 10 + 1) c1 v1 s1 g1 t1 a0_7 a0_8) (can + un * 4294967296) q1 m0 m1 m2 a (a % 192) (a % 192 / 64) (a % 192 % 64) (2 ^ (a % 192 % 64))
    (Nat.lt_trans (word0_lt hok) (by decide)) (by omega) (by omega) (by omega) (by omega) (by omega) (by rw [i64_and255]; exact ha) (by rw [Int.tmod_eq_emod_of_nonneg (by omega)]; omega) (by omega) (by rw [Int.tdiv_eq_ediv_of_nonneg (by omega)]; omega) (by omega)
    (by rw [Int.tmod_eq_emod_of_nonneg (by omega)]; omega) (by omega) ?_ hp (fun w => ?_) (fun w => FrameR.ref_ok (kn % 10 + 1) c1 v1 s1 g1 can t1 q1 un a0_7 a0_8 hok (by omega) (by omega) w) W gl
  · have e : ((2 : Int) ^ (a % 192 % 64)) = ((2 ^ (a % 192 % 64) : Nat) : Int) := by rw [Int.natCast_pow]; rfl
    rw [e]
    revert hp
    generalize (2 ^ (a % 192 % 64) : Nat) = sv
    intro hp
    rw [wrap_u64_in _ (by omega) (by omega)]
  · refine near_core a0_0 a0_1 a0_2 a0_3 a0_4 can a0_6 a0_7 a0_8 a0_9 un 0 w 0 kn (kn % 10) c1 v1 s1 g1 t1 q1 _ _ _ _ _ _ _ (by decide) (by rw [i64_and255]; exact hkn) ?_ (by omega)
      (by rw [i64_and3]; exact hc1) (by rw [i64_and3]; exact hv1) (by rw [i64_and15]; exact hs1) (by rw [i64_and24]; exact hg1) (by rw [i64_and15]; exact ht1) (by rw [i64_and65535]; exact hq1) ⟨?_, ?_, ?_, ?_, ?_, ?_, ?_⟩
    · rw [Int.tmod_eq_emod_of_nonneg (by omega)]; omega
    all_goals first | rfl | (simp; done) | (simp; omega)
end Go.Proofs.YthonkcldddfpnaaDoor.walkFrameGets
