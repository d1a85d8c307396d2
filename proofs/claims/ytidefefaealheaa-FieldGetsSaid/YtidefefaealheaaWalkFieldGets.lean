/- FieldGets's call comes to true: its walk, over the contracts of the functions that it calls. -/
import Derived.Test.YtidefefaealheaaFieldGetsF
import Derived.Test.YtidefefaealheaaOpen
import Derived.Test.YtidefefaealheaaQuiet
import Derived.WalkKit
import Derived.BigQuiet
namespace Go.Proofs.Ytidefefaealheaa.walkFieldGets
open Go.RowKit Go.Proofs.Ytidefefaealheaa.Open Go.Proofs.Ytidefefaealheaa.PFieldGets Go.Proofs.YtidefefaealheaaW.PrintWords Go.Proofs.YtidefefaealheaaW.PrintLast Go.Proofs.YtidefefaealheaaW.PrintMore Go.Proofs.Ytidefefaealheaa.Quiet Go.Proofs.Ytidefefaealheaa.FieldGetsF Go.Proofs.Ytidefefaealheaa.Aid Go.Proofs.Ytidefefaealheaa.FieldMath
set_option linter.unusedVariables false
attribute [local go_sem] max2_int min2_int max_two min_two

theorem gets_awake : cablewaylaw01_awake.f = some true := by kernel_rfl

set_option maxHeartbeats 1000000 in
/-- A field that may be. -/
theorem walk_may (a0 a1 a2_0 a2_1 g v m : Int) (W : World) (hM1 : cablewayref01_May.f a2_0 a2_1 = some true) (hM2 : field_Field_May.f a2_0 a2_1 = some true) (hG1 : field_Field_Get.f a2_0 a2_1 a0 = some g) (hG2 : cablewayref01_Get.f 500 a0 a2_0 a2_1 = some g)
    (hP1 : field_Field_Put.f a2_0 a2_1 a0 a1 = some v) (hP2 : cablewayref01_Put.f 500 a0 a2_0 a2_1 a1 = some v) (hMo : field_Field_Most.f a2_0 a2_1 = some m) (hRM : cablewayref01_Most.f 500 a2_1 = some m)
    (hF : field_Field_Fits.f a2_0 a2_1 a1 = some (decide (a1 ≤ m))) (hGP : field_Field_Get.f a2_0 a2_1 v = some (mn a1 m)) (hA : cablewaylaw01_awake.f = some true) :
    Calls Try.prog 4 #[.int .u64 a0, .int .u64 a1, .agg #[.int .i64 a2_0, .int .i64 a2_1]] W fun e W' => e = .returned (.bool true) ∧ Below W.heap.size W W' := by
  go_enter Try.func4, Try.ntmps4
  go_wp2_with (first | (go_at_call 22; refine (cablewayref01_May.calls _ _ _ _ hM1).mono ?_; rintro e w' ⟨rfl, ⟨nd, rfl⟩⟩))
  generalize hW1 : (W.alloc (Obj.cells #[Value.int IntKind.i64 a2_0, Value.int IntKind.i64 a2_1] 37)).drewN nd = W1
  have HC0 : W1.cell? ⟨W.heap.size, 0, none⟩ = some (.int .i64 a2_0) := by subst hW1; simp [go_sem]
  have HC1 : W1.cell? ⟨W.heap.size, 1, none⟩ = some (.int .i64 a2_1) := by subst hW1; simp [go_sem]
  have HZ : W.heap.size < W1.heap.size := by subst hW1; simp
  have HB : Below W.heap.size W W1 := by subst hW1; exact below_drewN ((Below.refl _ _).alloc (Nat.le_refl _) _) _
  clear hW1
  refine wp_region_below (by kernel_rfl) (by kernel_rfl) ?_
  repeat (go_big_quiet_step ((intro hw; first
     | (with_reducible rfl)
     | (go_at_call 23; exact q_below hw (field_Field_May.calls _ _ _ _ hM2))
     | (go_at_call 24; first | exact q_below hw (field_Field_Get.calls _ _ _ _ _ hG1) | exact q_below hw (field_Field_Get.calls _ _ _ _ _ hGP))
     | (go_at_call 25; exact q_below hw ((cablewayref01_Get.calls _ _ _ _ _ _ hG2).mono fun _ _ h => ⟨h.1, h.2.below⟩))
     | (go_at_call 26; exact q_below hw (field_Field_Put.calls _ _ _ _ _ _ hP1))
     | (go_at_call 27; exact q_below hw ((cablewayref01_Put.calls _ _ _ _ _ _ _ hP2).mono fun _ _ h => ⟨h.1, h.2.below⟩))
     | (go_at_call 28; exact q_below hw (cablewaylaw01_awake.calls _ _ hA))
     | (go_at_call 29; exact q_below hw (field_Field_Most.calls _ _ _ _ hMo))
     | (go_at_call 30; exact q_below hw (field_Field_Fits.calls _ _ _ _ _ hF))
     | (have e0 := (hw.cell (p := ⟨W.heap.size, 0, none⟩) HZ).trans HC0; have e1 := (hw.cell (p := ⟨W.heap.size, 1, none⟩) HZ).trans HC1
        simp only [e0, e1, Result.andThen_ok]; go_simp; first | rfl | exact ⟨rfl, rfl⟩))))
  refine wpQuiet_nil ?_
  intro W2 hb2
  replace HC0 := (hb2.cell (p := ⟨W.heap.size, 0, none⟩) HZ).trans HC0
  replace HC1 := (hb2.cell (p := ⟨W.heap.size, 1, none⟩) HZ).trans HC1
  replace HB := HB.trans (hb2.mono HB.size)
  replace HZ : W.heap.size < W2.heap.size := Nat.lt_of_lt_of_le HZ hb2.size
  clear hb2
  go_wp2_with (first | (go_at_call 31; refine (cablewayref01_Most.calls _ _ _ _ hRM).mono ?_; rintro e w' ⟨rfl, ⟨nd2, rfl⟩⟩))
  generalize hW3 : W2.drewN nd2 = W3
  replace HC0 : W3.cell? ⟨W.heap.size, 0, none⟩ = some (.int .i64 a2_0) := by subst hW3; simp [go_sem, HC0]
  replace HC1 : W3.cell? ⟨W.heap.size, 1, none⟩ = some (.int .i64 a2_1) := by subst hW3; simp [go_sem, HC1]
  replace HZ : W.heap.size < W3.heap.size := by subst hW3; simpa using HZ
  replace HB : Below W.heap.size W W3 := by subst hW3; exact below_drewN HB _
  clear hW3
  refine wp_region_below (by kernel_rfl) (by kernel_rfl) ?_
  repeat (go_big_quiet_step ((intro hw; first
     | (with_reducible rfl)
     | (go_at_call 23; exact q_below hw (field_Field_May.calls _ _ _ _ hM2))
     | (go_at_call 24; first | exact q_below hw (field_Field_Get.calls _ _ _ _ _ hG1) | exact q_below hw (field_Field_Get.calls _ _ _ _ _ hGP))
     | (go_at_call 25; exact q_below hw ((cablewayref01_Get.calls _ _ _ _ _ _ hG2).mono fun _ _ h => ⟨h.1, h.2.below⟩))
     | (go_at_call 26; exact q_below hw (field_Field_Put.calls _ _ _ _ _ _ hP1))
     | (go_at_call 27; exact q_below hw ((cablewayref01_Put.calls _ _ _ _ _ _ _ hP2).mono fun _ _ h => ⟨h.1, h.2.below⟩))
     | (go_at_call 28; exact q_below hw (cablewaylaw01_awake.calls _ _ hA))
     | (go_at_call 29; exact q_below hw (field_Field_Most.calls _ _ _ _ hMo))
     | (go_at_call 30; exact q_below hw (field_Field_Fits.calls _ _ _ _ _ hF))
     | (have e0 := (hw.cell (p := ⟨W.heap.size, 0, none⟩) HZ).trans HC0; have e1 := (hw.cell (p := ⟨W.heap.size, 1, none⟩) HZ).trans HC1
        simp only [e0, e1, Result.andThen_ok]; go_simp; first | rfl | exact ⟨rfl, rfl⟩))))
  refine wpQuiet_nil ?_
  intro W4 hb4
  replace HB := HB.trans (hb4.mono HB.size)
  clear HC0 HC1
  go_wp2
  all_goals go_ret
  · have e : mn a1 m = m := by unfold mn; rw [if_pos ‹m < a1›]
    exact ⟨by rw [e]; simp, HB⟩
  · have e : mn a1 m = a1 := by unfold mn; rw [if_neg (by omega)]
    exact ⟨by rw [e]; simp, HB⟩

set_option maxHeartbeats 1000000 in
/-- A field that may not be. -/
theorem walk_not (a0 a1 a2_0 a2_1 : Int) (W : World) (hM1 : cablewayref01_May.f a2_0 a2_1 = some false) (hM2 : field_Field_May.f a2_0 a2_1 = some false) (hG1 : field_Field_Get.f a2_0 a2_1 a0 = some 0) (hG2 : cablewayref01_Get.f 500 a0 a2_0 a2_1 = some 0)
    (hP1 : field_Field_Put.f a2_0 a2_1 a0 a1 = some a0) (hP2 : cablewayref01_Put.f 500 a0 a2_0 a2_1 a1 = some a0) (hMo : field_Field_Most.f a2_0 a2_1 = some 0) (hF : field_Field_Fits.f a2_0 a2_1 a1 = some false) (hA : cablewaylaw01_awake.f = some true) :
    Calls Try.prog 4 #[.int .u64 a0, .int .u64 a1, .agg #[.int .i64 a2_0, .int .i64 a2_1]] W fun e W' => e = .returned (.bool true) ∧ Below W.heap.size W W' := by
  go_enter Try.func4, Try.ntmps4
  go_wp2_with (first | (go_at_call 22; refine (cablewayref01_May.calls _ _ _ _ hM1).mono ?_; rintro e w' ⟨rfl, ⟨nd, rfl⟩⟩))
  generalize hW1 : (W.alloc (Obj.cells #[Value.int IntKind.i64 a2_0, Value.int IntKind.i64 a2_1] 37)).drewN nd = W1
  have HC0 : W1.cell? ⟨W.heap.size, 0, none⟩ = some (.int .i64 a2_0) := by subst hW1; simp [go_sem]
  have HC1 : W1.cell? ⟨W.heap.size, 1, none⟩ = some (.int .i64 a2_1) := by subst hW1; simp [go_sem]
  have HZ : W.heap.size < W1.heap.size := by subst hW1; simp
  have HB : Below W.heap.size W W1 := by subst hW1; exact below_drewN ((Below.refl _ _).alloc (Nat.le_refl _) _) _
  clear hW1
  refine wp_region_below (by kernel_rfl) (by kernel_rfl) ?_
  repeat (go_big_quiet_step ((intro hw; first
     | (with_reducible rfl)
     | (go_at_call 23; exact q_below hw (field_Field_May.calls _ _ _ _ hM2))
     | (go_at_call 24; first | exact q_below hw (field_Field_Get.calls _ _ _ _ _ hG1))
     | (go_at_call 25; exact q_below hw ((cablewayref01_Get.calls _ _ _ _ _ _ hG2).mono fun _ _ h => ⟨h.1, h.2.below⟩))
     | (go_at_call 26; exact q_below hw (field_Field_Put.calls _ _ _ _ _ _ hP1))
     | (go_at_call 27; exact q_below hw ((cablewayref01_Put.calls _ _ _ _ _ _ _ hP2).mono fun _ _ h => ⟨h.1, h.2.below⟩))
     | (go_at_call 28; exact q_below hw (cablewaylaw01_awake.calls _ _ hA))
     | (go_at_call 29; exact q_below hw (field_Field_Most.calls _ _ _ _ hMo))
     | (go_at_call 30; exact q_below hw (field_Field_Fits.calls _ _ _ _ _ hF))
     | (have e0 := (hw.cell (p := ⟨W.heap.size, 0, none⟩) HZ).trans HC0; have e1 := (hw.cell (p := ⟨W.heap.size, 1, none⟩) HZ).trans HC1
        simp only [e0, e1, Result.andThen_ok]; go_simp; first | rfl | exact ⟨rfl, rfl⟩))))
  refine wpQuiet_nil ?_
  intro W2 hb2
  replace HC0 := (hb2.cell (p := ⟨W.heap.size, 0, none⟩) HZ).trans HC0
  replace HC1 := (hb2.cell (p := ⟨W.heap.size, 1, none⟩) HZ).trans HC1
  replace HB := HB.trans (hb2.mono HB.size)
  replace HZ : W.heap.size < W2.heap.size := Nat.lt_of_lt_of_le HZ hb2.size
  clear hb2
  go_wp2_with (first
    | (go_at_call 28; refine (cablewaylaw01_awake.calls _ _ hA).mono ?_; rintro e w3 ⟨rfl, hb3⟩
       have HC2 := (hb3.cell (p := ⟨W.heap.size, 0, none⟩) HZ).trans HC0; have HC3 := (hb3.cell (p := ⟨W.heap.size, 1, none⟩) HZ).trans HC1)
    | (go_at_call 29; refine (field_Field_Most.calls _ _ _ _ hMo).mono ?_; rintro e w4 ⟨rfl, hb4⟩
       have HC4 := (hb4.cell (p := ⟨W.heap.size, 0, none⟩) (Nat.lt_of_lt_of_le HZ hb3.size)).trans HC2; have HC5 := (hb4.cell (p := ⟨W.heap.size, 1, none⟩) (Nat.lt_of_lt_of_le HZ hb3.size)).trans HC3)
    | (go_at_call 30; refine (field_Field_Fits.calls _ _ _ _ _ hF).mono ?_; rintro e w5 ⟨rfl, hb5⟩))
  go_ret
  exact ⟨rfl, HB.trans ((hb3.mono HB.size).trans ((hb4.mono (Nat.le_trans HB.size hb3.size)).trans (hb5.mono (Nat.le_trans HB.size (Nat.le_trans hb3.size hb4.size)))))⟩

theorem wf_u64 {a : Int} (h : (Lit.int .u64 a).wf = true) : 0 ≤ a ∧ a < 18446744073709551616 := by
  simp [Lit.wf, IntKind.min, IntKind.max, IntKind.signed, IntKind.bits] at h; omega

theorem walk (a0 : Int) (a1 : Int) (a2_0 : Int) (a2_1 : Int) (W : World) (w0 : (Lit.int .u64 a0).wf = true) (w1 : (Lit.int .u64 a1).wf = true) (w2_0 : (Lit.int .i64 a2_0).wf = true) (w2_1 : (Lit.int .i64 a2_1).wf = true) :
    Calls Try.prog 4 #[.int .u64 a0, .int .u64 a1, .agg #[.int .i64 a2_0, .int .i64 a2_1]] W fun e W' => e = .returned (.bool true) ∧ Below W.heap.size W W' := by
  have hb0 := wf_u64 w0
  have hb1 := wf_u64 w1
  by_cases hm : 0 ≤ a2_0 ∧ a2_0 < 64 ∧ 1 ≤ a2_1 ∧ a2_1 ≤ 64 - a2_0
  · obtain ⟨a, rfl⟩ := Int.eq_ofNat_of_zero_le hm.1
    obtain ⟨n, rfl⟩ := Int.eq_ofNat_of_zero_le (show 0 ≤ a2_1 by omega)
    obtain ⟨w, rfl⟩ := Int.eq_ofNat_of_zero_le hb0.1
    obtain ⟨v, rfl⟩ := Int.eq_ofNat_of_zero_le hb1.1
    have hs : a + n ≤ 64 := by omega
    have h1 : 1 ≤ n := by omega
    have hw : w < 2 ^ 64 := by omega
    have hM2 : field_Field_May.f a n = some true := by rw [fMay_eq, decide_eq_true hm]
    have hMo := fMost_eq a n hs h1
    have hmn : mn (v : Int) ((2 ^ n - 1 : Nat) : Int) = ((min v (2 ^ n - 1) : Nat) : Int) := by unfold mn; split <;> omega
    refine walk_may w v a n ((getN w a n : Nat) : Int) ((putN w a n v : Nat) : Int) ((2 ^ n - 1 : Nat) : Int) W (by rw [refMay_eq, decide_eq_true hm]) hM2 (fGet_eq w a n hs h1 hw) (refGet_eq 500 w a n hs h1 hw (by omega))
      (fPut_eq w a n v hs h1 hw) (refPut_eq 500 w a n v hs h1 hw (by omega)) hMo (refMost_eq 500 n (by omega) (by omega)) ?_ ?_ gets_awake
    · unfold field_Field_Fits.f
      rw [hM2, hMo]; rfl
    · rw [hmn, fGet_eq _ a n hs h1 (putN_lt hs), getN_putN hs hw]
  · have hM1 : cablewayref01_May.f a2_0 a2_1 = some false := by rw [refMay_eq, decide_eq_false hm]
    have hM2 : field_Field_May.f a2_0 a2_1 = some false := by rw [fMay_eq, decide_eq_false hm]
    have hMo : field_Field_Most.f a2_0 a2_1 = some 0 := by unfold field_Field_Most.f; rw [hM2]; rfl
    refine walk_not a0 a1 a2_0 a2_1 W hM1 hM2 ?_ ?_ (fPut_none _ _ _ _ hm) ?_ hMo ?_ gets_awake
    · unfold field_Field_Get.f; rw [hM2]; rfl
    · unfold cablewayref01_Get.f; rw [hM1]; rfl
    · unfold cablewayref01_Put.f; rw [hM1]; rfl
    · unfold field_Field_Fits.f; rw [hM2]; rfl
end Go.Proofs.Ytidefefaealheaa.walkFieldGets
