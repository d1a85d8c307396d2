/- What may go on is cut to what there may be; of none nothing goes on: the walk of AdmitMost. -/
import Derived.Test.YtidefefaealheaaAdmitL
import Derived.Test.YtidefefaealheaaOpen
namespace Go.Proofs.Ytidefefaealheaa.walkAdmitMost
open Go.RowKit Go.Proofs.Ytidefefaealheaa.PAdmitPlays Go.Proofs.YtidefefaealheaaW.PrintWords Go.Proofs.YtidefefaealheaaW.PrintLast Go.Proofs.YtidefefaealheaaW.PrintMore Go.Proofs.Ytidefefaealheaa.Aid Go.Proofs.Ytidefefaealheaa.Quiet Go.Proofs.Ytidefefaealheaa.Blk Go.Proofs.Ytidefefaealheaa.State Go.Proofs.Ytidefefaealheaa.Admit
set_option linter.unusedVariables false
attribute [local go_sem] max2_int min2_int max_two min_two

theorem get3 (x y n : Int) (T : List Int) (j : Nat) : (x :: y :: n :: T)[3 + j]? = T[j]? := by rw [Nat.add_comm]; rfl
theorem set3 (x y n v : Int) (T : List Int) (j : Nat) : (x :: y :: n :: T).set (3 + j) v = x :: y :: n :: T.set j v := by rw [Nat.add_comm]; rfl

set_option maxHeartbeats 4000000 in
set_option maxRecDepth 100000 in
theorem core (a0 a1 x y : Int) (W : World) (HX : mn (mx a0 0) 64 = x) (HY : mn (mx a1 0) 64 = y) (hx : 0 ≤ x ∧ x ≤ 64) (hy : 0 ≤ y ∧ y ≤ 64) :
    Calls Try.prog 14 #[.int .i64 a0, .int .i64 a1] W fun e W' => e = .returned (.bool true) ∧ Below W.heap.size W W' := by
  have HNEW := Aside0.mk (newL a0 a1 x y W HX HY)
  obtain ⟨x', hxx⟩ : ∃ x', (if a0 < 0 then 0 else a0) = x' := ⟨_, rfl⟩
  obtain ⟨y', hyy⟩ : ∃ y', (if a1 < 0 then 0 else a1) = y' := ⟨_, rfl⟩
  have ha' : (if 64 < x' then 64 else x') = x := by rw [← HX, ← hxx]; rfl
  have he' : (if 64 < y' then 64 else y') = y := by rw [← HY, ← hyy]; rfl
  clear HX HY
  obtain ⟨z, hz⟩ : ∃ z, (if 4 * y < x then 4 * y else x) = z := ⟨_, rfl⟩
  go_enter Try.func14, Try.ntmps14
  go_wp2_with fail
  refine HNEW.out.mono ?_
  rintro e w1 ⟨rfl, hG, hB, hlt⟩
  clear HNEW
  have HG := Aside0.mk hG
  have HB := Aside0.mk hB
  clear hG hB hlt
  go_wp2_with fail
  go_loopw [6, 7] (fun n i wr => ∃ (k : Nat) (m : Int) (T : List Int), k ≤ 4 ∧ i = .int .i64 k ∧ n = .int .i64 m ∧ m ≤ x ∧ m ≤ k * y ∧ (m = x ∨ m = k * y) ∧ T.length = 4 ∧ (∀ j, k ≤ j → j < 4 → T[j]?.getD 0 = 0) ∧ Holds .i64 94 wr W.heap.size (x :: y :: m :: T) ∧ Below W.heap.size W wr) (fun _ i _ => 4 - (intOf i).toNat)
  case atStart => exact ⟨0, 0, [0, 0, 0, 0], by omega, rfl, rfl, by omega, by omega, by right; simp, rfl, fun j _ hj => by rcases (show j = 0 ∨ j = 1 ∨ j = 2 ∨ j = 3 by omega) with rfl | rfl | rfl | rfl <;> rfl, HG.out, HB.out⟩
  case round =>
    obtain ⟨i, m, T, hi, rfl, rfl, hmx, hmy, hm, hT, hT0, hG1, hB1⟩ := hrel
    have HG1 := Aside0.mk hG1
    have HB1 := Aside0.mk hB1
    have HT := Aside0.mk hT
    have HT0 := Aside0.mk hT0
    have HM := Aside0.mk (And.intro hmx (And.intro hmy hm))
    clear hG1 hB1 hT hT0 HG HB hmx hmy hm
    by_cases h4 : i < 4
    · have HM0 := Aside0.mk (show (0 : Int) ≤ m by have h := HM.out; have := Int.mul_nonneg (show (0 : Int) ≤ (i : Int) by omega) hy.1; omega)
      have hd4 : decide ((i : Int) < 4) = true := decide_eq_true (by omega)
      go_wp2_with fail
      go_loopw [6, 8] (fun n k wr => ∃ q : Nat, k = .int .i64 q ∧ n = .int .i64 (m + q) ∧ (q : Int) ≤ y ∧ m + q ≤ x ∧ Holds .i64 94 wr W.heap.size (x :: y :: (m + q) :: T.set i q) ∧ Below W.heap.size W wr) (fun _ k _ => 70 - (intOf k).toNat)
      case atStart => exact ⟨0, rfl, by simp, by simpa using hy.1, by have := HM.out; simpa using this.1, by
        have e : T.set i ((0 : Nat) : Int) = T := by
          apply List.ext_getElem?
          intro j
          rw [List.getElem?_set]
          split
          · rename_i hij
            subst hij
            have h0 := HT0.out i (Nat.le_refl _) h4
            have hl := HT.out
            rw [if_pos (by omega), List.getElem?_eq_getElem (by omega)]
            rw [List.getElem?_eq_getElem (by omega)] at h0
            simpa using h0.symm
          · rfl
        rw [e]; simpa using HG1.out, HB1.out⟩
      case round =>
        obtain ⟨q, rfl, rfl, hqy, hqx, hG2, hB2⟩ := hrel
        have HG2 := Aside0.mk hG2
        have HB2 := Aside0.mk hB2
        have H7 := Aside0.mk (show (x :: y :: (m + q) :: T.set i q).length = 7 by have := HT.out; simp [this])
        have HV := Aside0.mk (show (T.set i (q : Int))[i]?.getD 0 = q by rw [List.getElem?_set_self (by have := HT.out; omega)]; rfl)
        clear hG2 hB2
        have hm0 := HM0.out
        by_cases hfull : m + q < x
        · by_cases heach : (q : Int) < y
          · go_wp2_with fail
            refine (takeL_yes W.heap.size i h4 _ H7.out _ HG2.out hfull (by rw [get3, HV.out]; exact heach) (by rw [get3, HV.out]; simp; omega)).mono ?_
            rintro e w5 ⟨rfl, hG5, hO5⟩
            have HG5 := Aside0.mk (show Holds .i64 94 w5 W.heap.size (x :: y :: (m + ((q + 1 : Nat) : Int)) :: T.set i ((q + 1 : Nat) : Int)) by
              have h := hG5
              rw [get3, HV.out] at h
              have e : ((x :: y :: (m + q) :: T.set i (q : Int)).set 2 ((x :: y :: (m + q) :: T.set i (q : Int))[2]?.getD 0 + 1)).set (3 + i) (q + 1) = x :: y :: (m + ((q + 1 : Nat) : Int)) :: T.set i ((q + 1 : Nat) : Int) := by
                rw [show (x :: y :: (m + q) :: T.set i (q : Int)).set 2 ((x :: y :: (m + q) :: T.set i (q : Int))[2]?.getD 0 + 1) = x :: y :: (m + q + 1) :: T.set i (q : Int) from rfl, set3, List.set_set]
                congr 3
                omega
              rw [e] at h
              exact h)
            have HB5 := Aside0.mk (hO5.below HB2.out (Nat.le_refl _) HB2.out.size)
            clear hG5 hO5
            go_wp2_with fail
            go_roundw
            case rel => exact ⟨q + 1, by go_num, by congr 1; push_cast; omega, by push_cast; omega, by push_cast; omega, HG5.out, HB5.out⟩
            case measure => simp [intOf]; omega
          · go_wp2_with fail
            refine (takeL_each W.heap.size i h4 _ H7.out _ HG2.out hfull (by rw [get3, HV.out]; simp; omega)).mono ?_
            rintro e w5 ⟨rfl, n1, rfl⟩
            go_wp2_with fail
            go_roundw
            case rel => exact ⟨i + 1, m + q, T.set i q, by omega, by go_num, rfl, hqx, by have := HM.out; push_cast; rw [Int.add_mul]; omega, by have := HM.out; push_cast; rw [Int.add_mul]; omega, by simpa using HT.out, fun j hj hj4 => by rw [List.getElem?_set_ne (by omega)]; exact HT0.out j (by omega) hj4, HG2.out.drewN _, below_drewN HB2.out _⟩
            case measure => simp [intOf]; omega
        · go_wp2_with fail
          refine (takeL_full W.heap.size i h4 _ H7.out _ HG2.out (by simp; omega)).mono ?_
          rintro e w5 ⟨rfl, n1, rfl⟩
          go_wp2_with fail
          go_roundw
          case rel => exact ⟨i + 1, m + q, T.set i q, by omega, by go_num, rfl, hqx, by have := HM.out; push_cast; rw [Int.add_mul]; omega, by left; omega, by simpa using HT.out, fun j hj hj4 => by rw [List.getElem?_set_ne (by omega)]; exact HT0.out j (by omega) hj4, HG2.out.drewN _, below_drewN HB2.out _⟩
          case measure => simp [intOf]; omega
    · obtain rfl : i = 4 := by omega
      obtain rfl : z = m := by have := HM.out; rw [← hz]; split <;> omega
      have H7 := Aside0.mk (show (x :: y :: z :: T).length = 7 by have := HT.out; simp [this])
      go_wp2_with fail
      refine (awake_calls _).mono ?_
      rintro e w2 ⟨rfl, hb2⟩
      have hg2 := HG1.out.below hb2 HG1.out.lt
      go_wp2_with (first
        | (go_at_call 51; refine (take_nil _ _).mono ?_; rintro e w3 ⟨rfl, n3, rfl⟩)
        | (go_at_call 50; refine (give_nil _ _).mono ?_; rintro e w3 ⟨rfl, n3, rfl⟩)
        | (go_at_call 53; refine (to_nil _ _).mono ?_; rintro e w3 ⟨rfl, n3, rfl⟩)
        | (go_at_call 52; refine (len_nil _).mono ?_; rintro e w3 ⟨rfl, n3, rfl⟩)
        | (go_at_call 52; refine (lenL W.heap.size (x :: y :: z :: T) H7.out _ (hg2.drewN _)).mono ?_; rintro e w3 ⟨rfl, n3, rfl⟩)
        | (go_at_call 52; refine (lenL W.heap.size (x :: y :: z :: T) H7.out _ hg2).mono ?_; rintro e w3 ⟨rfl, n3, rfl⟩))
      go_ret
      exact ⟨rfl, below_drewN (HB1.out.trans (hb2.mono HB1.out.size)) _⟩

theorem walk (a0 : Int) (a1 : Int) (W : World) (w0 : (Lit.int .i64 a0).wf = true) (w1 : (Lit.int .i64 a1).wf = true) :
    Calls Try.prog 14 #[.int .i64 a0, .int .i64 a1] W fun e W' => e = .returned (.bool true) ∧ Below W.heap.size W W' :=
  core a0 a1 _ _ W rfl rfl (by unfold mn mx; split <;> split <;> omega) (by unfold mn mx; split <;> split <;> omega)
end Go.Proofs.Ytidefefaealheaa.walkAdmitMost
