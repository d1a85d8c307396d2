/- Who is given what comes, always to the one that has the least, has no more than one more than another one: the walk of RouteShares. -/
import Derived.Test.YtidefefaealheaaRoute
import Derived.Test.YtidefefaealheaaBlk
namespace Go.Proofs.Ytidefefaealheaa.walkRouteShares
open Go.RowKit Go.Proofs.Ytidefefaealheaa.PRouteLeast Go.Proofs.YtidefefaealheaaW.PrintWords Go.Proofs.YtidefefaealheaaW.PrintLast Go.Proofs.YtidefefaealheaaW.PrintMore Go.Proofs.Ytidefefaealheaa.Aid Go.Proofs.Ytidefefaealheaa.Quiet Go.Proofs.Ytidefefaealheaa.Route Go.Proofs.Ytidefefaealheaa.Blk
set_option linter.unusedVariables false
attribute [local go_sem] max2_int min2_int max_two min_two

def sum (L : List Int) : Nat → Int
  | 0 => 0
  | n + 1 => sum L n + L[n]?.getD 0
theorem sum_set (L : List Int) (j : Nat) (v : Int) (hj : j < L.length) : ∀ n, sum (L.set j v) n = sum L n + if j < n then v - L[j]?.getD 0 else 0
  | 0 => by simp [sum]
  | n + 1 => by
    simp only [sum, sum_set L j v hj n]
    rw [List.getElem?_set]
    by_cases h : j = n
    · subst h
      simp [hj]
      omega
    · rw [if_neg h]
      by_cases h2 : j < n
      · rw [if_pos h2, if_pos (by omega)]; omega
      · rw [if_neg h2, if_neg (by omega)]; omega
theorem sum_bound (L : List Int) (r : Int) (h : ∀ i, i < L.length → 0 ≤ L[i]?.getD 0 ∧ L[i]?.getD 0 ≤ r) : ∀ n, n ≤ L.length → 0 ≤ sum L n ∧ sum L n ≤ n * r
  | 0, _ => by simp [sum]
  | n + 1, hn => by
    have := sum_bound L r h n (by omega)
    have := h n (by omega)
    simp only [sum]
    have e : ((n + 1 : Nat) : Int) * r = n * r + r := by rw [Int.natCast_add, Int.add_mul]; omega
    omega
theorem sum_full (L : List Int) (r : Int) (h : ∀ i, i < L.length → L[i]?.getD 0 = r) : ∀ n, n ≤ L.length → sum L n = n * r
  | 0, _ => by simp [sum]
  | n + 1, hn => by
    have := sum_full L r h n (by omega)
    have := h n (by omega)
    simp only [sum]
    have e : ((n + 1 : Nat) : Int) * r = n * r + r := by rw [Int.natCast_add, Int.add_mul]; omega
    omega
theorem sum_zero : ∀ m n, sum (List.replicate m 0) n = 0
  | _, 0 => rfl
  | m, n + 1 => by
    simp only [sum, sum_zero m n]
    rw [List.getElem?_replicate]
    split <;> rfl

/-- What is so after k that came. -/
structure Bal (L : List Int) (n k : Nat) (r : Int) : Prop where
  len : L.length = n
  low : ∀ i, i < n → 0 ≤ L[i]?.getD 0 ∧ L[i]?.getD 0 ≤ r
  near : ∀ i j, i < n → j < n → L[i]?.getD 0 - L[j]?.getD 0 ≤ 1
  all : sum L n = k
theorem Bal.start (n : Nat) (r : Int) (hr : 0 ≤ r) : Bal (List.replicate n 0) n 0 r := by
  have e : ∀ i : Nat, (List.replicate n (0 : Int))[i]?.getD 0 = 0 := fun i => by rw [List.getElem?_replicate]; split <;> rfl
  exact ⟨by simp, fun i _ => by rw [e]; omega, fun i j _ _ => by rw [e, e]; omega, by rw [sum_zero]; rfl⟩
theorem Bal.step {L : List Int} {n k : Nat} {r : Int} (h : Bal L n k r) {j : Nat} (hj : j < n) (hjr : L[j]?.getD 0 < r) (hle : ∀ i, i < n → L[i]?.getD 0 < r → L[j]?.getD 0 ≤ L[i]?.getD 0) : Bal (L.set j (L[j]?.getD 0 + 1)) n (k + 1) r := by
  have hj' : j < L.length := by rw [h.len]; exact hj
  have e : ∀ i, i < n → (L.set j (L[j]?.getD 0 + 1))[i]?.getD 0 = if i = j then L[j]?.getD 0 + 1 else L[i]?.getD 0 := fun i hi => by
    rw [List.getElem?_set]
    by_cases hij : j = i
    · subst hij; simp [hj']
    · rw [if_neg hij, if_neg (fun h => hij h.symm)]
  have hmin : ∀ i, i < n → L[j]?.getD 0 ≤ L[i]?.getD 0 := fun i hi => by
    by_cases hr : L[i]?.getD 0 < r
    · exact hle i hi hr
    · omega
  refine ⟨by simp [h.len], fun i hi => ?_, fun i i' hi hi' => ?_, ?_⟩
  · rw [e i hi]
    have := h.low i hi
    have := h.low j hj
    split <;> omega
  · rw [e i hi, e i' hi']
    have := h.near i i' hi hi'
    have := h.near i j hi hj
    have := hmin i' hi'
    split <;> split <;> omega
  · rw [sum_set L j _ hj', if_pos hj, h.all]
    omega

theorem info3 : (Try.prog.info? 3).map (fun i => (i.zero, i.size, i.bytes)) = some (some (.int .i64 0), 1, 8) := by kernel_rfl

set_option maxHeartbeats 4000000 in
theorem core (a0 a1 : Int) (q : Nat) (r : Int) (W : World) (HQ : Go.bits .and .i64 a0 7 = (q : Int)) (hq : q ≤ 7) (HR : Go.bits .and .i64 a1 15 = r) (hr0 : 0 ≤ r) (hr1 : r ≤ 15) :
    Calls Try.prog 7 #[.int .i64 a0, .int .i64 a1] W fun e W' => e = .returned (.bool true) ∧ Below W.heap.size W W' := by
  have HMK : ∀ W : World, (Instr.makeSlice 50 (.int .i64 (1 + (q : Int))) (.int .i64 (1 + (q : Int)))).run Try.prog W = .ok (.slice (some ⟨W.heap.size, 0, none⟩) (q + 1) (q + 1)) (W.alloc (.cells (arr .i64 (List.replicate (q + 1) 0)) 3)) := fun W => by
    have := print_make_int 50 3 (.int .i64 0) 8 Try.underlying50 info3 rfl (by decide) (1 + (q : Int)) (by omega) (by omega) W
    rw [show (1 + (q : Int)).toNat = q + 1 by omega, arr_made] at this
    exact this
  go_enter Try.func7, Try.ntmps7
  go_wp2
  obtain ⟨W1, hW1⟩ : ∃ W1, W1 = W.alloc (.cells (arr .i64 (List.replicate (q + 1) 0)) 3) := ⟨_, rfl⟩
  have hB1 : Below W.heap.size W W1 := by subst hW1; exact (Below.refl _ _).alloc (Nat.le_refl _) _
  have hH1 : Holds .i64 3 W1 W.heap.size (List.replicate (q + 1) 0) := by subst hW1; exact heap_new _ _
  rw [← hW1]
  clear hW1 HMK
  go_loopw [7] (fun i wr => ∃ (k : Nat) (L : List Int), k ≤ 60 ∧ i = .int .i64 k ∧ Bal L (q + 1) k r ∧ Holds .i64 3 wr W.heap.size L ∧ Below W.heap.size W wr) (fun i _ => 60 - (intOf i).toNat)
  case atStart => exact ⟨0, _, by omega, rfl, Bal.start _ _ hr0, hH1, hB1⟩
  case round =>
    obtain ⟨k, L, hk, rfl, hbal, hH, hB⟩ := hrel
    have hL := hbal.len
    by_cases hlt : k < 60
    · obtain ⟨b, hb, hleast⟩ := least_eq L r (by omega)
      have hcall := fun w (h : Holds .i64 3 w W.heap.size L) => route_Least.calls (L.length + 1) (some ⟨W.heap.size, 0, none⟩) (q + 1) L r b w (h.C (by omega)) (by omega) hb
      rw [hL] at hcall
      have HCALL := Aside0.mk hcall
      have HH := Aside0.mk hH
      have HBAL := Aside0.mk hbal
      have HL := Aside0.mk hL
      have HBW := Aside0.mk hB
      rcases hleast with ⟨rfl, hle⟩ | ⟨j, rfl, hj, hjr, hle⟩
      · have FIN := Aside0.mk (show sum L (q + 1) = if wrap64 (r * ((q : Int) + 1)) < 60 then wrap64 (r * ((q : Int) + 1)) else 60 by
          have e := sum_full L r (fun i hi => by have := hle i hi; have := (hbal.low i (by omega)).2; omega) (q + 1) (by omega)
          have e2 := hbal.all
          rw [e] at e2
          have hp : ((q + 1 : Nat) : Int) * r = r * ((q : Int) + 1) := by rw [Int.mul_comm]; congr 1
          rw [hp] at e e2
          rw [e, w64 _ (by omega) (by omega)]
          split <;> omega)
        have HLE := Aside0.mk hle
        clear hcall hH hbal hL hB hle hb
        go_wp2_with (first | (go_at_call 34; refine (HCALL.out _ HH.out).mono ?_; rintro e W0 ⟨rfl, hd⟩; obtain ⟨n1, hd⟩ := hd; replace HH := Aside0.mk (show Holds .i64 3 W0 W.heap.size L by subst hd; exact HH.out.drewN n1); replace HBW := Aside0.mk (show Below W.heap.size W W0 by subst hd; exact below_drewN HBW.out n1); clear hd))
        clear HCALL
        go_loopw [9, 10] (fun s i wr => ∃ c : Nat, c ≤ q + 1 ∧ i = .int .i64 c ∧ s = .int .i64 (sum L c) ∧ ∃ nd, wr = W0.drewN nd) (fun _ i _ => q + 1 - (intOf i).toNat)
        case atStart => exact ⟨0, Nat.zero_le _, rfl, rfl, 0, rfl⟩
        case round =>
          obtain ⟨c, hc, rfl, rfl, nd, rfl⟩ := hrel
          by_cases hlt2 : c < q + 1
          · have cc := HH.out.cell (i := c) (by have := HL.out; omega)
            have b1 := sum_bound L r (fun i hi => HBAL.out.low i (by have := HL.out; omega)) c (by have := HL.out; omega)
            have b2 := HBAL.out.low c hlt2
            obtain ⟨v, hv⟩ : ∃ v, L[c]?.getD 0 = v := ⟨_, rfl⟩
            obtain ⟨s, hs⟩ : ∃ s, sum L c = s := ⟨_, rfl⟩
            have b3 : (c : Int) * r ≤ 200 := by
              have : (c : Int) * r ≤ 8 * 15 := Int.mul_le_mul (by omega) hr1 hr0 (by omega)
              omega
            have hs1 : 0 ≤ s ∧ s ≤ 1000 := by omega
            have hv1 : 0 ≤ v ∧ v ≤ 100 := by omega
            have HS := Aside0.mk (show sum L (c + 1) = s + v by simp only [sum]; rw [hv, hs])
            rw [hv] at cc
            rw [hs]
            clear b1 b2 hv hs b3
            go_wp2
            go_roundw
            case rel => exact ⟨c + 1, by omega, by go_num, by rw [HS.out], _, rfl⟩
            case measure => simp [intOf]; omega
          · obtain rfl : c = q + 1 := by omega
            go_wp2_with (first | (go_at_call 35; refine (awake_calls _).mono ?_; rintro e w3 ⟨rfl, hb3⟩))
            all_goals go_ret
            all_goals refine ⟨?_, HBW.out.trans ((below_drewN (Below.refl _ _) nd).trans (hb3.mono HBW.out.size))⟩
            · show Ending.returned (.bool (sum L (q + 1) == _)) = _
              rw [FIN.out, if_pos (by assumption)]
              simp
            · show Ending.returned (.bool (sum L (q + 1) == _)) = _
              rw [FIN.out, if_neg (by omega)]
              simp
      · have hjq : j < q + 1 := by omega
        have hx0 := (hbal.low j hjq).1
        have hS := hbal.step hjq hjr (fun i hi h => (hle i (by omega) h).1)
        obtain ⟨x, hx⟩ : ∃ x, L[j]?.getD 0 = x := ⟨_, rfl⟩
        rw [hx] at hS hx0 hjr
        have ECALL := Aside0.mk (show ∀ w, Holds .i64 3 w W.heap.size (L.set j (x + 1)) → Calls Try.prog 36 #[.slice (some ⟨W.heap.size, 0, none⟩) (q + 1) (q + 1)] w fun e w' => e = .returned (.bool true) ∧ ∃ n, w' = w.drewN n from fun w h => by
          have hlen := hS.len
          have h1 := even_calls (some ⟨W.heap.size, 0, none⟩) (q + 1) (L.set j (x + 1)) w (h.C (by omega)) (by omega) (fun i hi => by have := hS.low i (by omega); omega)
          rw [hlen, (even_iff _ (by omega)).2 (fun i i' hi hi' => hS.near i i' (by omega) (by omega))] at h1
          exact h1)
        have HX := Aside0.mk hx
        have HSTEP := Aside0.mk hS
        clear hcall hH hbal hL hB hle hb hx hS hj
        go_wp2_with (first
          | (go_at_call 34; refine (HCALL.out _ HH.out).mono ?_; rintro e W0 ⟨rfl, hd⟩; obtain ⟨n1, hd⟩ := hd; replace HH := Aside0.mk (show Holds .i64 3 W0 W.heap.size L by subst hd; exact HH.out.drewN n1); replace HBW := Aside0.mk (show Below W.heap.size W W0 by subst hd; exact below_drewN HBW.out n1); clear hd; have cj := HH.out.cell (i := j) (by have := HL.out; omega); rw [HX.out] at cj; have fj := HH.out.free j)
          | (go_at_call 36; refine (ECALL.out _ (HH.out.set j (x + 1))).mono ?_; rintro e w' ⟨rfl, n2, rfl⟩))
        go_roundw
        case rel => exact ⟨k + 1, _, by omega, by go_num, HSTEP.out, (HH.out.set j (x + 1)).drewN n2, below_drewN (HBW.out.setCell (Nat.le_refl _) _) n2⟩
        case measure => simp [intOf]; omega
    · obtain rfl : k = 60 := by omega
      have FIN := Aside0.mk (show sum L (q + 1) = if wrap64 (r * ((q : Int) + 1)) < 60 then wrap64 (r * ((q : Int) + 1)) else 60 by
        have e := (sum_bound L r (fun i hi => hbal.low i (by omega)) (q + 1) (by omega)).2
        have e2 := hbal.all
        have hp : ((q + 1 : Nat) : Int) * r = r * ((q : Int) + 1) := by rw [Int.mul_comm]; congr 1
        have hp2 : r * ((q : Int) + 1) ≤ 15 * 8 := Int.mul_le_mul hr1 (by omega) (by omega) (by omega)
        rw [hp] at e
        rw [e2, w64 _ (by omega) (by omega)]
        split <;> omega)
      have HH := Aside0.mk hH
      have HBAL := Aside0.mk hbal
      have HL := Aside0.mk hL
      have HBW := Aside0.mk hB
      clear hH hbal hL hB
      go_wp2
      obtain ⟨W0, rfl⟩ : ∃ W0, W0 = wr := ⟨_, rfl⟩
      go_loopw [9, 10] (fun s i wr => ∃ c : Nat, c ≤ q + 1 ∧ i = .int .i64 c ∧ s = .int .i64 (sum L c) ∧ ∃ nd, wr = W0.drewN nd) (fun _ i _ => q + 1 - (intOf i).toNat)
      case atStart => exact ⟨0, Nat.zero_le _, rfl, rfl, 0, rfl⟩
      case round =>
        obtain ⟨c, hc, rfl, rfl, nd, rfl⟩ := hrel
        by_cases hlt2 : c < q + 1
        · have cc := HH.out.cell (i := c) (by have := HL.out; omega)
          have b1 := sum_bound L r (fun i hi => HBAL.out.low i (by have := HL.out; omega)) c (by have := HL.out; omega)
          have b2 := HBAL.out.low c hlt2
          obtain ⟨v, hv⟩ : ∃ v, L[c]?.getD 0 = v := ⟨_, rfl⟩
          obtain ⟨s, hs⟩ : ∃ s, sum L c = s := ⟨_, rfl⟩
          have b3 : (c : Int) * r ≤ 200 := by
            have : (c : Int) * r ≤ 8 * 15 := Int.mul_le_mul (by omega) hr1 hr0 (by omega)
            omega
          have hs1 : 0 ≤ s ∧ s ≤ 1000 := by omega
          have hv1 : 0 ≤ v ∧ v ≤ 100 := by omega
          have HS := Aside0.mk (show sum L (c + 1) = s + v by simp only [sum]; rw [hv, hs])
          rw [hv] at cc
          rw [hs]
          clear b1 b2 hv hs b3
          go_wp2
          go_roundw
          case rel => exact ⟨c + 1, by omega, by go_num, by rw [HS.out], _, rfl⟩
          case measure => simp [intOf]; omega
        · obtain rfl : c = q + 1 := by omega
          go_wp2_with (first | (go_at_call 35; refine (awake_calls _).mono ?_; rintro e w3 ⟨rfl, hb3⟩))
          all_goals go_ret
          all_goals refine ⟨?_, HBW.out.trans ((below_drewN (Below.refl _ _) nd).trans (hb3.mono HBW.out.size))⟩
          · show Ending.returned (.bool (sum L (q + 1) == _)) = _
            rw [FIN.out, if_pos (by assumption)]
            simp
          · show Ending.returned (.bool (sum L (q + 1) == _)) = _
            rw [FIN.out, if_neg (by omega)]
            simp

theorem walk (a0 : Int) (a1 : Int) (W : World) (w0 : (Lit.int .i64 a0).wf = true) (w1 : (Lit.int .i64 a1).wf = true) :
    Calls Try.prog 7 #[.int .i64 a0, .int .i64 a1] W fun e W' => e = .returned (.bool true) ∧ Below W.heap.size W W' := by
  refine core a0 a1 (a0 % 8).toNat (a1 % 16) W (by rw [i64_and7]; omega) (by omega) (i64_and15 a1) (by omega) (by omega)
end Go.Proofs.Ytidefefaealheaa.walkRouteShares
