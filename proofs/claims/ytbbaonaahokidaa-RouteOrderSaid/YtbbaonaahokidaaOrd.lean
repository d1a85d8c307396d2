/- Those that may take more, by what they have to do: contract of route.Order. -/
import Derived.Test.YtbbaonaahokidaaSrt
import Derived.Test.YtbbaonaahokidaaRoute
namespace Go.Proofs.Ytbbaonaahokidaa.Ord
open Go.RowKit Go.Proofs.YtbbaonaahokidaaW.PrintWords Go.Proofs.YtbbaonaahokidaaW.PrintLast Go.Proofs.YtbbaonaahokidaaW.PrintMore Go.Proofs.Ytbbaonaahokidaa.Aid Go.Proofs.Ytbbaonaahokidaa.Quiet Go.Proofs.Ytbbaonaahokidaa.Blk Go.Proofs.Ytbbaonaahokidaa.State Go.Proofs.Ytbbaonaahokidaa.Vals Go.Proofs.Ytbbaonaahokidaa.Srt
set_option linter.unusedVariables false
set_option linter.unusedSimpArgs false

def natI (q : List Nat) : List Int := q.map Int.ofNat
theorem info3 : (Try.prog.info? 3).map (fun i => (i.zero, i.size, i.bytes)) = some (some (.int .i64 0), 1, 8) := by kernel_rfl
theorem ins0 (A : Option Addr) (c : Nat) (F : Value) (w : World) : Calls Try.prog 79 #[.slice A 0 c, .int .i64 0, .int .i64 0, F] w fun r w' => r = .returned (.tuple #[]) ∧ w' = w := by
  go_enter Try.func79, Try.ntmps79
  go_wp2_with fail
  go_loopg [8, 9] 0 (fun gg v8 v9 wx => v8 = .int .i64 1 ∧ wx = w)
  case atStart => exact ⟨rfl, rfl⟩
  case round =>
    obtain ⟨rfl, rfl⟩ := hrel
    go_wp2_with fail
    go_end0
    exact ⟨rfl, rfl⟩
theorem stable_of (V F : Value) (m : Nat) (hm : m ≤ 12) (w : World) (P : World → Prop) (h : Calls Try.prog 79 #[V, .int .i64 0, .int .i64 m, F] w fun r w' => r = .returned (.tuple #[]) ∧ P w') :
    Calls Try.prog 78 #[V, .int .i64 m, F] w fun r w' => r = .returned (.tuple #[]) ∧ P w' := by
  have H := Aside0.mk h
  have d1 : decide ((20 : Int) ≤ (m : Int)) = false := decide_eq_false (by omega)
  have d2 : decide ((20 : Int) < (m : Int)) = false := decide_eq_false (by omega)
  have d3 : ¬ 20 ≤ m := by omega
  have d4 : ¬ 20 < m := by omega
  clear h
  go_enter Try.func78, Try.ntmps78
  go_wp2_with fail
  go_loopg [7, 8] 0 (fun gg v7 v8 wx => v7 = .int .i64 0 ∧ v8 = .int .i64 20 ∧ wx = w)
  case atStart => exact ⟨rfl, rfl, rfl⟩
  case round =>
    obtain ⟨rfl, rfl, rfl⟩ := hrel
    go_wp2_with fail
    refine H.out.mono ?_
    rintro e w1 ⟨rfl, hp⟩
    have HP := Aside0.mk hp
    clear hp
    go_wp2_with fail
    go_loopg [6, 7, 8, 9] 0 (fun gg v6 v7 v8 v9 wx => v6 = .int .i64 20 ∧ wx = w1)
    case atStart => exact ⟨rfl, rfl⟩
    case round =>
      obtain ⟨rfl, rfl⟩ := hrel
      go_wp2_with fail
      go_end0
      exact ⟨rfl, HP.out⟩
theorem sort_of (A : Option Addr) (c : Nat) (F : Value) (m : Nat) (hm : m ≤ 12) (w : World) (P : World → Prop) (h : Calls Try.prog 79 #[.slice A m c, .int .i64 0, .int .i64 m, F] w fun r w' => r = .returned (.tuple #[]) ∧ P w') :
    Calls Try.prog 72 #[.slice A m c, F] w fun r w' => r = .returned (.tuple #[]) ∧ P w' := by
  have H := Aside0.mk (stable_of (.slice A m c) F m hm w P h)
  clear h
  go_enter Try.func72, Try.ntmps72
  go_wp2_with fail
  refine H.out.mono ?_
  rintro e w1 ⟨rfl, hp⟩
  have HP := Aside0.mk hp
  clear hp
  go_wp2_with fail
  go_end0
  exact ⟨rfl, HP.out⟩
/-- Those of the first j that may take more. -/
def may (l : List Int) (room : Int) (j : Nat) : List Nat := (List.range j).filter fun i => decide (l[i]?.getD 0 < room)
theorem may_succ (l : List Int) (room : Int) (j : Nat) : may l room (j + 1) = may l room j ++ (if l[j]?.getD 0 < room then [j] else []) := by
  unfold may
  rw [List.range_succ, List.filter_append]
  by_cases h : l[j]?.getD 0 < room
  · rw [if_pos h, List.filter_cons_of_pos (by simpa using h), List.filter_nil]
  · rw [if_neg h, List.filter_cons_of_neg (by simpa using h), List.filter_nil]
theorem may_le (l : List Int) (room : Int) (j : Nat) : (may l room j).length ≤ j := Nat.le_trans (List.length_filter_le _ _) (by simp)
theorem may_mem (l : List Int) (room : Int) (j x : Nat) (h : x ∈ may l room j) : x < j ∧ l[x]?.getD 0 < room := by
  unfold may at h
  rw [List.mem_filter, List.mem_range] at h
  exact ⟨h.1, by simpa using h.2⟩
theorem may_inc (l : List Int) (room : Int) (j : Nat) : (may l room j).Pairwise (· < ·) := (List.pairwise_lt_range (n := j)).filter _
theorem natI_append (a b : List Nat) : natI (a ++ b) = natI a ++ natI b := List.map_append ..
/-- What Order hands back. -/
def OrdR (w : World) (B : Nat) (v : Value) (l : List Int) (Q : List Nat) : Prop :=
  (Q = [] ∧ ∃ A c, v = .slice A 0 c) ∨ ∃ og oc, v = .slice (some ⟨og, 0, none⟩) Q.length oc ∧ Row3 w og oc Q ∧ B ≤ og
set_option maxHeartbeats 4000000 in
set_option maxRecDepth 100000 in
theorem order_at (A : Option Addr) (l : List Int) (c : Nat) (room : Int) (w : World) (hl : l.length ≤ 12) (ro : ∀ i (h : i < l.length), ∃ ad, A = some ad ∧ w.cell? (ad.add i) = some (.int .i64 l[i])) :
    Calls Try.prog 59 #[.slice A l.length c, .int .i64 room] w fun r w' => (∃ v Q, r = .returned v ∧ OrdR w' w.heap.size v l Q ∧ Q.Perm (may l room l.length) ∧ Q.Pairwise (RR fun n => l[n]?.getD 0)) ∧ Below w.heap.size w w' := by
  have hmf : ∀ (fn : Fn) (first cap : Array Value) (w : World), (Instr.makeFunc fn first cap).run Try.prog w = .ok (.func fn first cap) w := fun _ _ _ _ => rfl
  have RO := Aside0.mk ro
  have HLN := Aside0.mk hl
  obtain ⟨lb, hlb⟩ : ∃ x, w.heap.size = x := ⟨_, rfl⟩
  clear ro
  go_enter Try.func59, Try.ntmps59
  go_upto_region 1 with fail
  have X := Aside0.mk (show (w.alloc (.cells #[.slice A l.length c] 25)).heap[lb]? = some (.cells #[.slice A l.length c] 25 (0, 0)) from by rw [← hlb]; exact heap_new _ _)
  have B1 := Aside0.mk (show Below lb w (w.alloc (.cells #[.slice A l.length c] 25)) from hlb ▸ (Below.refl w.heap.size w).alloc (Nat.le_refl _) _)
  have S1 := Aside0.mk (show (w.alloc (.cells #[.slice A l.length c] 25)).heap.size = lb + 1 by rw [← hlb]; exact Array.size_push ..)
  obtain ⟨w1, hw1⟩ : ∃ x, w.alloc (.cells #[.slice A l.length c] 25) = x := ⟨_, rfl⟩
  rw [hw1] at X B1 S1 ⊢
  have c0 : w1.cell? ⟨lb, 0, none⟩ = some (.slice A l.length c) := by simp [World.cell?, X.out]
  clear hw1
  go_wp2_with fail
  go_loopg [5, 6, 7, 10] l.length (fun gg v5 v6 v7 v10 wx => ∃ j : Nat, gg + j = l.length ∧ v10 = .int .i64 (j : Int) ∧ wx.ownsRow (lb + 1) 3 1 v5 (natI (may l room j)).length (nums .i64 (natI (may l room j))) ∧ Below (lb + 1) w1 wx)
  case atStart => exact ⟨0, rfl, rfl, own_nil _ _ _ _, by have := S1.out; rw [← this]; exact Below.refl _ _⟩
  case round =>
    obtain ⟨j, hj, rfl, hO, hB⟩ := hrel
    have HO := Aside0.mk hO
    have HB := Aside0.mk hB
    have HJ := Aside0.mk hj
    clear hO hB hj c0
    by_cases hlt : j < l.length
    · have d1 : decide ((j : Int) < (l.length : Int)) = true := decide_eq_true (by omega)
      obtain ⟨ad, rfl, hc⟩ := RO.out j hlt
      have hc2 : wr.cell? (ad.add j) = some (.int .i64 l[j]) := by
        have h1 := B1.out.cell (p := ad.add j) (hlb ▸ World.block_lt_of_cell? _ _ hc)
        have h2 := HB.out.cell (p := ad.add j) (Nat.lt_succ_of_lt (hlb ▸ World.block_lt_of_cell? _ _ hc))
        rw [h2, h1]; exact hc
      have e0 : l[j]?.getD 0 = l[j] := by simp [hlt]
      have MS := may_succ l room j
      rw [e0] at MS
      obtain ⟨x, hx⟩ : ∃ x, l[j] = x := ⟨_, rfl⟩
      rw [hx] at hc2 MS
      clear hc e0 hx
      by_cases hp : x < room
      · rw [if_pos hp] at MS
        have d2 : decide (x < room) = true := decide_eq_true hp
        have HE := Aside0.mk (show natI (may l room j) ++ [(j : Int)] = natI (may l room (j + 1)) by rw [MS, natI_append]; rfl)
        have HL2 := Aside0.mk (show (natI (may l room j)).length ≤ 12 by have := may_le l room j; have := HLN.out; simp [natI]; omega)
        have HZ := Aside0.mk (show lb + 1 ≤ wr.heap.size by have := HB.out.size; have := S1.out; omega)
        clear MS hp
        go_wp2_with (first | ((with_reducible refine gate_builtin (b := .append) (xs := #[.tmp 18, .tmp 20]) rfl ?_); at_builtin; refine print_append_num (w0 := w1) (lb + 1) rfl (.tmp 18) (.tmp 20) 25 3 .i64 8 rfl Try.underlying25 info3 (by decide) u5 (natI (may l room j)) (j : Int) rfl rfl HO.out HB.out HZ.out (by have := HL2.out; omega) ?_; intro v1 w2 ho hb hg hat; clear hg hat; rw [HE.out] at ho; have HO2 := Aside0.mk ho; have HB2 := Aside0.mk hb; clear ho hb))
        go_roundg (l.length - (j + 1))
        case measure => have := HJ.out; omega
        case rel => exact ⟨j + 1, by have := HJ.out; omega, by go_num, HO2.out, HB2.out⟩
      · rw [if_neg hp, List.append_nil] at MS
        have d2 : decide (x < room) = false := decide_eq_false hp
        have HO2 := Aside0.mk (show wr.ownsRow (lb + 1) 3 1 u5 (natI (may l room (j + 1))).length (nums .i64 (natI (may l room (j + 1)))) from by rw [MS]; exact HO.out)
        clear MS hp
        go_wp2_with fail
        go_roundg (l.length - (j + 1))
        case measure => have := HJ.out; omega
        case rel => exact ⟨j + 1, by have := HJ.out; omega, by go_num, HO2.out, HB.out⟩
    · have d1 : decide ((j : Int) < (l.length : Int)) = false := decide_eq_false (by omega)
      obtain rfl : j = l.length := by have := HJ.out; omega
      obtain ⟨M, hM⟩ : ∃ M, may l room l.length = M := ⟨_, rfl⟩
      have HMM := Aside0.mk (show (∀ x ∈ M, x < l.length) ∧ M.Pairwise (· < ·) ∧ M.length ≤ 12 from ⟨fun x hx => (may_mem l room _ x (hM ▸ hx)).1, hM ▸ may_inc l room _, by have := may_le l room l.length; rw [hM] at this; have := HLN.out; omega⟩)
      rw [hM] at HO
      obtain ⟨ov, rfl⟩ : ∃ ov, u5 = ov := ⟨_, rfl⟩
      have HXB := Aside0.mk (show wr.heap[lb]? = some (.cells #[.slice A l.length c] 25 (0, 0)) from (HB.out.block lb (by omega)).trans X.out)
      have hlnM : (natI M).length = M.length := by simp [natI]
      rcases HO.out.2 with ⟨hv, h0⟩ | ⟨og, oc, cur, hv, hog, hcur, hle, hmx, hsz, htk⟩
      · subst hv
        have hM0 : M = [] := List.eq_nil_of_length_eq_zero (by rw [← hlnM]; exact h0)
        subst hM0
        clear hlnM h0 d1 hlt
        go_wp2_with fail
        refine (sort_of none 0 _ 0 (by omega) wr (fun w' => w' = wr) (ins0 none 0 _ wr)).mono ?_
        rintro e w2 ⟨rfl, rfl⟩
        go_wp2_with fail
        go_ret
        exact ⟨⟨_, [], rfl, Or.inl ⟨rfl, none, 0, rfl⟩, by rw [hM], List.Pairwise.nil⟩, by rw [hlb]; exact B1.out.trans (HB.out.mono (by omega))⟩
      · subst hv
        rw [hlnM] at htk hle ⊢
        by_cases hm0 : M = []
        · subst hm0
          clear hlnM d1 hlt htk
          go_wp2_with fail
          refine (sort_of _ oc _ 0 (by omega) wr (fun w' => w' = wr) (ins0 _ oc _ wr)).mono ?_
          rintro e w2 ⟨rfl, rfl⟩
          go_wp2_with fail
          go_ret
          exact ⟨⟨_, [], rfl, Or.inl ⟨rfl, _, oc, rfl⟩, by rw [hM], List.Pairwise.nil⟩, by rw [hlb]; exact B1.out.trans (HB.out.mono (by omega))⟩
        · obtain ⟨ad, hAd⟩ : ∃ ad, A = some ad := by
            cases hMl : M with
            | nil => exact absurd hMl hm0
            | cons y ys =>
              obtain ⟨ad, h, _⟩ := RO.out y (HMM.out.1 y (by rw [hMl]; simp))
              exact ⟨ad, h⟩
          subst hAd
          have hadb : ad.block < lb := by
            cases hMl : M with
            | nil => exact absurd hMl hm0
            | cons y ys =>
              obtain ⟨ad2, h, hc⟩ := RO.out y (HMM.out.1 y (by rw [hMl]; simp))
              injection h with h
              subst h
              have := World.block_lt_of_cell? _ _ hc
              have hblk : (ad.add y).block = ad.block := by unfold Addr.add; split <;> rfl
              omega
          have HLd := Aside0.mk (show Ld wr lb ad c l from ⟨HXB.out, fun i hi => by
            obtain ⟨ad2, h, hc⟩ := RO.out i hi
            injection h with h
            subst h
            have h1 := B1.out.cell (p := ad.add i) (hlb ▸ World.block_lt_of_cell? _ _ hc)
            have h2 := HB.out.cell (p := ad.add i) (Nat.lt_succ_of_lt (hlb ▸ World.block_lt_of_cell? _ _ hc))
            rw [h2, h1]; exact hc⟩)
          have HRow := Aside0.mk (show Row3 wr og oc M from ⟨cur.toList.drop M.length, by
            have e1 : (M.map (fun n : Nat => Value.int .i64 (n : Int))) = cur.toList.take M.length := by
              rw [Nat.mul_one] at htk
              rw [htk]
              simp [nums, natI]
            unfold HoldsV
            rw [e1, List.take_append_drop]
            simpa using hcur, by simp [hsz]; omega⟩)
          have INS := Aside0.mk (ins_at lb ad c l og oc M.length M wr HLd.out HRow.out rfl HMM.out.2.2 (by omega) HMM.out.1 HMM.out.2.1)
          have HOG := Aside0.mk hog
          clear hlnM d1 hlt htk hcur hsz hmx hm0 hadb hog
          go_wp2_with fail
          refine (sort_of _ oc _ M.length HMM.out.2.2 wr _ INS.out).mono ?_
          rintro e w2 ⟨rfl, ⟨Q2, h1, h2, h3⟩, h4, h5⟩
          have HQ := Aside0.mk (And.intro h1 (And.intro h2 h3))
          have HB5 := Aside0.mk (show Below lb w w2 from h5.below (B1.out.trans (HB.out.mono (by omega))) (by intro x hx; simp at hx; have := HOG.out; omega) (by have := HB.out.size; have := S1.out; omega))
          clear h1 h2 h3 h4 h5
          go_wp2_with fail
          go_ret
          exact ⟨⟨.slice (some ⟨og, 0, none⟩) M.length oc, Q2, rfl, Or.inr ⟨og, oc, by rw [HQ.out.2.1.length_eq], HQ.out.1, by have := HOG.out; omega⟩, by rw [hM]; exact HQ.out.2.1, HQ.out.2.2⟩, by rw [hlb]; exact HB5.out⟩
end Go.Proofs.Ytbbaonaahokidaa.Ord
