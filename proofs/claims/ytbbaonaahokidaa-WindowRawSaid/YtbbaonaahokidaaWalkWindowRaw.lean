/- At any time, however great, counting ends, and what happened at that very time counts: the walk of WindowRaw. -/
import Derived.Test.YtbbaonaahokidaaWindow5
namespace Go.Proofs.Ytbbaonaahokidaa.walkWindowRaw
open Go.RowKit Go.Proofs.Ytbbaonaahokidaa.PPaceBands Go.Proofs.YtbbaonaahokidaaW.PrintWords Go.Proofs.YtbbaonaahokidaaW.PrintLast Go.Proofs.YtbbaonaahokidaaW.PrintMore Go.Proofs.Ytbbaonaahokidaa.Aid Go.Proofs.Ytbbaonaahokidaa.Quiet Go.Proofs.Ytbbaonaahokidaa.Blk Go.Proofs.Ytbbaonaahokidaa.State Go.Proofs.Ytbbaonaahokidaa.Vals Go.Proofs.Ytbbaonaahokidaa.Window
set_option linter.unusedVariables false
attribute [local go_sem] max2_int min2_int max_two min_two

/-- What the window tells in the end. -/
theorem told (B T0 T1 : Nat) (hB : 1 ≤ B ∧ B ≤ 16) (L2 L4 : List Int) (a1 : Nat) (hL2 : L2 = bump (List.replicate (B * 2) 0) (T0 % B * 2 + 0)) (ha1 : a1 = if T0 + B ≤ T1 then T1 - B else T0)
    (hL4 : L4 = bump (clrs B a1 (T1 - a1) L2) (max T0 T1 % B * 2 + 1)) :
    Small 1000 L2 ∧ Small 1000 (clrs B a1 (T1 - a1) L2) ∧ Small 1000 L4 ∧ sumAt L4 1 B = 1 ∧ (0 ≤ sumAt L4 0 B ∧ sumAt L4 0 B ≤ 1) ∧ (T0 = T1 → sumAt L4 0 B = 1) := by
  have p0 : T0 % B < B := Nat.mod_lt _ (by omega)
  have p1 : max T0 T1 % B < B := Nat.mod_lt _ (by omega)
  have s0 : Small 0 (List.replicate (B * 2) 0) := Small.zeros _
  have s2 : Small 1 L2 := by
    rw [hL2]
    have h := s0 (T0 % B * 2 + 0)
    exact (s0.mono (M' := 1) (by omega)).set _ _ (by omega) (by omega)
  have s3 : Small 1 (clrs B a1 (T1 - a1) L2) := s2.clrs (by omega) _ _ _
  have s4 : Small 1000 L4 := by rw [hL4]; exact s3.bump _ (by omega)
  have e20 : sumAt L2 0 B = 1 := by rw [hL2, sumAt_bump _ _ 0 0 (by omega) (by omega) (by simp; omega), sumAt_zeros]; simp [p0]
  have e21 : sumAt L2 1 B = 0 := by rw [hL2, sumAt_bump _ _ 1 0 (by omega) (by omega) (by simp; omega), sumAt_zeros]; simp
  have l3 : (clrs B a1 (T1 - a1) L2).length = B * 2 := by rw [clrs_length, hL2]; simp [bump]
  have c0 := sumAt_clrs (s2.mono (M' := 1000) (by omega)) B a1 0 B (T1 - a1)
  have c1 := sumAt_clrs (s2.mono (M' := 1000) (by omega)) B a1 1 B (T1 - a1)
  have n0 := sumAt_small (s3.mono (M' := 1000) (by omega)) (by omega) 0 B
  have n1 := sumAt_small (s3.mono (M' := 1000) (by omega)) (by omega) 1 B
  have e41 : sumAt L4 1 B = sumAt (clrs B a1 (T1 - a1) L2) 1 B + 1 := by rw [hL4, sumAt_bump _ _ 1 1 (by omega) (by omega) (by omega)]; simp [p1]
  have e40 : sumAt L4 0 B = sumAt (clrs B a1 (T1 - a1) L2) 0 B := by rw [hL4, sumAt_bump _ _ 0 1 (by omega) (by omega) (by omega)]; simp
  refine ⟨s2.mono (by omega), s3.mono (by omega), s4, by omega, by omega, fun hT => ?_⟩
  have hk : T1 - a1 = 0 := by rw [ha1, if_neg (by omega)]; omega
  rw [e40, hk]
  exact e20

set_option maxHeartbeats 2000000 in
set_option maxRecDepth 100000 in
theorem core (b t z0 z1 : Int) (B : Nat) (cl wd c0 c1 : Int) (T0 T1 a1 : Nat) (L2 L3 L4 : List Int) (v : Int) (eqb : Bool) (W : World) (hB : mn (mx b 1) 16 = (B : Int)) (hB1 : 1 ≤ B ∧ B ≤ 16) (hcl : ticks_Clamp.f t = some cl) (hwd : mx cl 1 = wd) (hwd1 : 1 ≤ wd ∧ wd ≤ 1099511627776)
    (hc0 : ticks_Clamp.f z0 = some c0) (hc1 : ticks_Clamp.f z1 = some c1) (hb0 : 0 ≤ c0 ∧ c0 ≤ 1099511627776) (hb1 : 0 ≤ c1 ∧ c1 ≤ 1099511627776) (hT0 : c0.tdiv wd = (T0 : Int)) (hT1 : c1.tdiv wd = (T1 : Int)) (hl0 : T0 ≤ 1099511627776) (hl1 : T1 ≤ 1099511627776)
    (hL2 : L2 = bump (List.replicate (B * 2) 0) (T0 % B * 2 + 0)) (ha1 : a1 = if T0 + B ≤ T1 then T1 - B else T0) (hL3 : L3 = clrs B a1 (T1 - a1) L2) (hL4 : L4 = bump L3 (max T0 T1 % B * 2 + 1))
    (h2 : Small 1000 L2) (h3 : Small 1000 L3) (h4 : Small 1000 L4) (hi : sumAt L4 1 B = 1) (hv : sumAt L4 0 B = v) (hv1 : v ≤ 1) (he : (z0 == z1) = eqb) (hev : eqb = true → v = 1) :
    Calls Try.prog 6 #[.int .i64 b, .int .i64 t, .agg #[.int .i64 z0, .int .i64 z1]] W fun e W' => e = .returned (.bool true) ∧ Below W.heap.size W W' := by
  have hu52 := Try.underlying52
  have NEW := Aside0.mk (fun w => new_calls b t B cl wd w hB hcl hwd)
  have N1 := Aside0.mk (fun (g gl : Nat) (w : World) (h : WinAt w g gl B wd 0 (List.replicate (B * 2) 0)) => note_at g gl B wd z0 c0 0 T0 (if 0 + B ≤ T0 then T0 - B else 0) T0 (T0 % B) true (List.replicate (B * 2) 0) (List.replicate (B * 2) 0) w h hc0 hb0 hT0 hl0 rfl (by omega) rfl (clrs_zeros _ _ _ _) ((Small.zeros _).mono (by omega)))
  have N2 := Aside0.mk (fun (g gl : Nat) (w : World) (h : WinAt w g gl B wd T0 L2) => note_at g gl B wd z1 c1 T0 T1 a1 (max T0 T1) (max T0 T1 % B) false L2 L3 w h hc1 hb1 hT1 hl1 ha1 rfl rfl hL3.symm h3)
  have CN := Aside0.mk (fun (g gl : Nat) (w : World) (h : WinAt w g gl B wd (max T0 T1) L4) => counts_at g gl B wd z1 c1 (max T0 T1) T1 (max T0 T1) (max T0 T1) L4 L4 w h hc1 hb1 hT1 hl1 (by rw [if_neg (by omega)]) (by omega) (by rw [show T1 - max T0 T1 = 0 by omega]; rfl) h4)
  have HL2 := Aside0.mk hL2
  have HL4 := Aside0.mk hL4
  have HI := Aside0.mk (And.intro hi hv)
  have HW := Aside0.mk (And.intro hB1 hwd1)
  have HEV := Aside0.mk hev
  have dv : decide (v ≤ 1) = true := decide_eq_true hv1
  clear hB hcl hwd hc0 hc1 hb0 hb1 hT0 hT1 hl0 hl1 hL2 ha1 hL3 hL4 h2 h3 h4 hi hv hv1 hev hB1 hwd1
  go_enter Try.func6, Try.ntmps6
  go_wp2_with fail
  refine (NEW.out _).mono ?_
  rintro e w1 ⟨g, gl, rfl, hF, hL, hne, hge, hB⟩
  have X1 := Aside0.mk ((show Holds .i64 56 _ W.heap.size [z0, z1] from heap_new _ _).below hB (by simp))
  have W1 := Aside0.mk (show WinAt w1 g gl B wd 0 (List.replicate (B * 2) 0) from ⟨hF, hL, by simp, hne, HW.out.1, HW.out.2, by omega⟩)
  have B1 := Aside0.mk (((Below.refl W.heap.size W).alloc (Nat.le_refl _) _).trans (hB.mono (by simp)))
  have HG := Aside0.mk (show (∀ x ∈ [g, gl], W.heap.size ≤ x) ∧ W.heap.size ∉ [g, gl] by simp at hge ⊢; omega)
  have x10 : w1.cell? ⟨W.heap.size, 0, none⟩ = some (.int .i64 z0) := X1.out.cell (i := 0) (by simp)
  have x11 : w1.cell? ⟨W.heap.size, 1, none⟩ = some (.int .i64 z1) := X1.out.cell (i := 1) (by simp)
  clear hF hL hne hge hB
  go_wp2_with fail
  refine (N1.out g gl _ W1.out).mono ?_
  rintro e w2 ⟨rfl, hW, hO⟩
  have W2 := Aside0.mk (show WinAt w2 g gl B wd T0 L2 by rw [HL2.out]; exact hW)
  have B2 := Aside0.mk (hO.below B1.out HG.out.1 B1.out.size)
  have X2 := Aside0.mk (show Holds .i64 56 w2 W.heap.size [z0, z1] from hO.blk HG.out.2 X1.out)
  have x20 : w2.cell? ⟨W.heap.size, 0, none⟩ = some (.int .i64 z0) := X2.out.cell (i := 0) (by simp)
  have x21 : w2.cell? ⟨W.heap.size, 1, none⟩ = some (.int .i64 z1) := X2.out.cell (i := 1) (by simp)
  clear hW hO x10 x11
  go_wp2_with fail
  refine (N2.out g gl _ W2.out).mono ?_
  rintro e w3 ⟨rfl, hW, hO⟩
  have W3 := Aside0.mk (show WinAt w3 g gl B wd (max T0 T1) L4 by rw [HL4.out]; exact hW)
  have B3 := Aside0.mk (hO.below B2.out HG.out.1 B2.out.size)
  have X3 := Aside0.mk (show Holds .i64 56 w3 W.heap.size [z0, z1] from hO.blk HG.out.2 X2.out)
  have x30 : w3.cell? ⟨W.heap.size, 0, none⟩ = some (.int .i64 z0) := X3.out.cell (i := 0) (by simp)
  have x31 : w3.cell? ⟨W.heap.size, 1, none⟩ = some (.int .i64 z1) := X3.out.cell (i := 1) (by simp)
  clear hW hO x20 x21
  go_wp2_with fail
  refine (CN.out g gl _ W3.out).mono ?_
  rintro e w4 ⟨rfl, hW, hO⟩
  have W4 := Aside0.mk (show WinAt w4 g gl B wd (max T0 T1) L4 by exact hW)
  have B4 := Aside0.mk (hO.below B3.out HG.out.1 B3.out.size)
  have X4 := Aside0.mk (show Holds .i64 56 w4 W.heap.size [z0, z1] from hO.blk HG.out.2 X3.out)
  have x40 : w4.cell? ⟨W.heap.size, 0, none⟩ = some (.int .i64 z0) := X4.out.cell (i := 0) (by simp)
  have x41 : w4.cell? ⟨W.heap.size, 1, none⟩ = some (.int .i64 z1) := X4.out.cell (i := 1) (by simp)
  clear hW hO x30 x31
  rw [HI.out.1, HI.out.2]
  have hlt := X4.out.lt
  go_wp2_with (first
    | (go_at_call 25; with_reducible refine (note_nil _ _ _).mono ?_; rintro e wn ⟨rfl, nn, rfl⟩)
    | (go_at_call 29; with_reducible refine (clear_nil _).mono ?_; rintro e wn ⟨rfl, nn, rfl⟩))
  refine (awake_calls _).mono ?_
  rintro e w5 ⟨rfl, hb5⟩
  have X5 := Aside0.mk ((show Holds .i64 56 ((w4.alloc (.cells #[.int .i64 v, .int .i64 1] 52)).drewN _) W.heap.size [z0, z1] from heap_old X4.out).below hb5 (by simp; omega))
  have C5 := Aside0.mk ((show Holds .i64 52 ((w4.alloc (.cells #[.int .i64 v, .int .i64 1] 52)).drewN _) w4.heap.size [v, 1] from heap_new _ _).below hb5 (by simp))
  have B5 := Aside0.mk ((below_drewN (B4.out.alloc B4.out.size (.cells #[.int .i64 v, .int .i64 1] 52)) _).trans (hb5.mono (by have := B4.out.size; simp; omega)))
  have y0 : w5.cell? ⟨W.heap.size, 0, none⟩ = some (.int .i64 z0) := X5.out.cell (i := 0) (by simp)
  have y1 : w5.cell? ⟨W.heap.size, 1, none⟩ = some (.int .i64 z1) := X5.out.cell (i := 1) (by simp)
  have q0 : w5.cell? ⟨w4.heap.size, 0, none⟩ = some (.int .i64 v) := C5.out.cell (i := 0) (by simp)
  have q1 : w5.cell? ⟨w4.heap.size, 1, none⟩ = some (.int .i64 1) := C5.out.cell (i := 1) (by simp)
  clear hb5 x40 x41 hlt
  cases eqb
  · have hne : ¬ z0 = z1 := by simpa using he
    clear he
    go_wp2_with (first | (go_at_call 27; with_reducible refine (counts_nil _ _).mono ?_; rintro e w6 ⟨rfl, hb6⟩; have HB6 := Aside0.mk hb6; clear hb6))
    go_ret
    exact ⟨rfl, B5.out.trans (HB6.out.mono B5.out.size)⟩
  · obtain rfl := HEV.out rfl
    obtain rfl : z0 = z1 := by simpa using he
    clear dv he
    go_wp2_with (first | (go_at_call 27; with_reducible refine (counts_nil _ _).mono ?_; rintro e w6 ⟨rfl, hb6⟩; have HB6 := Aside0.mk hb6; clear hb6))
    go_ret
    exact ⟨rfl, B5.out.trans (HB6.out.mono B5.out.size)⟩

theorem clamp_f (z : Int) : ∃ c, ticks_Clamp.f z = some c ∧ (0 ≤ c ∧ c ≤ 1099511627776) := ⟨_, rfl, by unfold mn mx; split <;> split <;> omega⟩
theorem walk (a0 : Int) (a1 : Int) (a2_0 : Int) (a2_1 : Int) (W : World) (w0 : (Lit.int .i64 a0).wf = true) (w1 : (Lit.int .i64 a1).wf = true) (w2_0 : (Lit.int .i64 a2_0).wf = true) (w2_1 : (Lit.int .i64 a2_1).wf = true) :
    Calls Try.prog 6 #[.int .i64 a0, .int .i64 a1, .agg #[.int .i64 a2_0, .int .i64 a2_1]] W fun e W' => e = .returned (.bool true) ∧ Below W.heap.size W W' := by
  have hb : 1 ≤ mn (mx a0 1) 16 ∧ mn (mx a0 1) 16 ≤ 16 := by unfold mn mx; split <;> split <;> omega
  obtain ⟨B, hB⟩ := Int.eq_ofNat_of_zero_le (show 0 ≤ mn (mx a0 1) 16 by omega)
  obtain ⟨cl, hcl, hcb⟩ := clamp_f a1
  obtain ⟨c0, hc0, hb0⟩ := clamp_f a2_0
  have hc1' := clamp_f a2_1
  have hwd : 1 ≤ mx cl 1 ∧ mx cl 1 ≤ 1099511627776 := by unfold mx; split <;> omega
  have turn : ∀ c : Int, 0 ≤ c ∧ c ≤ 1099511627776 → ∃ T : Nat, c.tdiv (mx cl 1) = (T : Int) ∧ T ≤ 1099511627776 := fun c hc => by
    have h0 : c.tdiv (mx cl 1) = c / mx cl 1 := Int.tdiv_eq_ediv_of_nonneg hc.1
    have h1 : 0 ≤ c / mx cl 1 := Int.ediv_nonneg hc.1 (by omega)
    have h2 : c / mx cl 1 ≤ c := Int.ediv_le_self _ hc.1
    exact ⟨(c / mx cl 1).toNat, by omega, by omega⟩
  obtain ⟨c1, hc1, hb1⟩ := hc1'
  obtain ⟨T0, hT0, hl0⟩ := turn c0 hb0
  obtain ⟨T1, hT1, hl1⟩ := turn c1 hb1
  obtain ⟨h2, h3, h4, hi, hv, hv1⟩ := told B T0 T1 (by omega) _ _ _ rfl rfl rfl
  refine core a0 a1 a2_0 a2_1 B cl _ c0 c1 T0 T1 _ _ _ _ _ (a2_0 == a2_1) W hB (by omega) hcl rfl hwd hc0 hc1 hb0 hb1 hT0 hT1 hl0 hl1 rfl rfl rfl rfl h2 h3 h4 hi rfl hv.2 rfl (fun he => ?_)
  have e : a2_0 = a2_1 := by simpa using he
  subst e
  rw [hc0] at hc1
  obtain rfl := Option.some.inj hc1
  exact hv1 (by omega)
end Go.Proofs.Ytbbaonaahokidaa.walkWindowRaw
