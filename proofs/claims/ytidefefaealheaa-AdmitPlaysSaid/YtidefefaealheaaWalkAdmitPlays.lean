/- How many go on, in all and to each service, is never more than may: the walk of AdmitPlays. -/
import Derived.Test.YtidefefaealheaaAdmitL
import Derived.Test.YtidefefaealheaaOpen
namespace Go.Proofs.Ytidefefaealheaa.walkAdmitPlays
open Go.RowKit Go.Proofs.Ytidefefaealheaa.Open Go.Proofs.Ytidefefaealheaa.PAdmitPlays Go.Proofs.YtidefefaealheaaW.PrintWords Go.Proofs.YtidefefaealheaaW.PrintLast Go.Proofs.YtidefefaealheaaW.PrintMore Go.Proofs.Ytidefefaealheaa.Aid Go.Proofs.Ytidefefaealheaa.Quiet Go.Proofs.Ytidefefaealheaa.Blk Go.Proofs.Ytidefefaealheaa.State Go.Proofs.Ytidefefaealheaa.Admit
set_option linter.unusedVariables false
attribute [local go_sem] max2_int min2_int max_two min_two

theorem get3 (x y n : Int) (T : List Int) (j : Nat) : (x :: y :: n :: T)[3 + j]? = T[j]? := by rw [Nat.add_comm]; rfl
theorem set3 (x y n v : Int) (T : List Int) (j : Nat) : (x :: y :: n :: T).set (3 + j) v = x :: y :: n :: T.set j v := by rw [Nat.add_comm]; rfl
/-- What is so behind i acts. -/
structure StepOk (x y n : Int) (T : List Int) (i : Nat) : Prop where
  len : T.length = 4
  n0 : -(i : Int) ≤ n ∧ n ≤ i
  t0 : ∀ j : Nat, j < 4 → (0 : Int) ≤ T[j]?.getD 0 ∧ T[j]?.getD 0 ≤ i
theorem StepOk.keep {x y n : Int} {T : List Int} {i : Nat} (h : StepOk x y n T i) : StepOk x y n T (i + 1) :=
  ⟨h.len, by have := h.n0; omega, fun j hj => by have := h.t0 j hj; omega⟩
theorem StepOk.up {x y n : Int} {T : List Int} {i : Nat} (h : StepOk x y n T i) {j : Nat} (hj : j < 4) : StepOk x y (n + 1) (T.set j (T[j]?.getD 0 + 1)) (i + 1) :=
  ⟨by simp [h.len], by have := h.n0; omega, fun k hk => by
    have := h.t0 k hk
    have := h.t0 j hj
    have hl := h.len
    rw [List.getElem?_set]
    split
    · rw [if_pos (by omega)]; simp only [Option.getD_some]; omega
    · omega⟩
theorem StepOk.down {x y n : Int} {T : List Int} {i : Nat} (h : StepOk x y n T i) {j : Nat} (hj : j < 4) (hp : (0 : Int) < T[j]?.getD 0) : StepOk x y (n - 1) (T.set j (T[j]?.getD 0 - 1)) (i + 1) :=
  ⟨by simp [h.len], by have := h.n0; omega, fun k hk => by
    have := h.t0 k hk
    have := h.t0 j hj
    have hl := h.len
    rw [List.getElem?_set]
    split
    · rw [if_pos (by omega)]; simp only [Option.getD_some]; omega
    · omega⟩
theorem q_of {P : Program} {f : FuncId} {args : Array Value} {v : Value} {w : World} {n : Nat} (h : Calls P f args (w.drewN n) fun e w' => e = .returned v ∧ ∃ m, w' = (w.drewN n).drewN m) :
    Calls P f args (w.drewN n) fun e w'' => e = .returned v ∧ ∃ m, w'' = w.drewN m := Calls.quiet_of h

set_option maxHeartbeats 4000000 in
set_option maxRecDepth 100000 in
theorem core (a0 a1 : Int) (a : Addr) (l : List (Pts [.bool, .int .i64])) (c : Nat) (x y : Int) (W : World) (HX : Go.bits .and .i64 a0 15 = x) (hx : 0 ≤ x ∧ x ≤ 15) (HY : Go.bits .and .i64 a1 7 = y) (hy : 0 ≤ y ∧ y ≤ 7)
    (hl : l.length ≤ 9223372036854775807) (hc : l.length ≤ c)
    (cell : ∀ (i : Nat) (h : i < l.length), W.cell? (a.add (i * 2)) = some (.bool (l[i]).1) ∧ W.cell? ⟨(a.add (i * 2)).block, (a.add (i * 2)).off + 1, none⟩ = some (.int .i64 (l[i]).2.1)) :
    Calls Try.prog 13 #[.int .i64 a0, .int .i64 a1, .slice (some a) l.length c] W fun e W' => e = .returned (.bool true) ∧ Below W.heap.size W W' := by
  have HC := Aside0.mk cell
  have hx' : mn (mx x 0) 64 = x := by unfold mn mx; split <;> split <;> omega
  have hy' : mn (mx y 0) 64 = y := by unfold mn mx; split <;> split <;> omega
  have HNEW := Aside0.mk (newL x y x y W hx' hy')
  clear cell hx' hy'
  go_enter Try.func13, Try.ntmps13
  go_wp2_with fail
  refine HNEW.out.mono ?_
  rintro e w1 ⟨rfl, hG, hB, hz⟩
  clear HNEW
  have HG := Aside0.mk hG
  have HB := Aside0.mk hB
  clear hG hB
  go_wp2_with fail
  have HG2 := Aside0.mk (show Holds .i64 94 (w1.alloc (.cells (arr .i64 [0, 0, 0, 0]) 81)) W.heap.size [x, y, 0, 0, 0, 0, 0] from heap_old HG.out)
  have HT2 := Aside0.mk (show Holds .i64 81 (w1.alloc (.cells (arr .i64 [0, 0, 0, 0]) 81)) w1.heap.size [0, 0, 0, 0] from heap_new _ _)
  have HB2 := Aside0.mk (show Below W.heap.size W (w1.alloc (.cells (arr .i64 [0, 0, 0, 0]) 81)) from HB.out.alloc (by omega) _)
  have HZ2 := Aside0.mk (show w1.heap.size < (w1.alloc (.cells (arr .i64 [0, 0, 0, 0]) 81)).heap.size by simp)
  generalize hW2 : (w1.alloc (.cells (arr .i64 [0, 0, 0, 0]) 81)) = W2 at HG2 HT2 HB2 HZ2
  rw [show (w1.alloc (Obj.cells #[Value.int IntKind.i64 0, Value.int IntKind.i64 0, Value.int IntKind.i64 0, Value.int IntKind.i64 0] 81)) = W2 from hW2]
  clear hW2 HG HB
  generalize hh : w1.heap.size = h at *
  clear hh
  clear w1
  go_loopw [11, 12] (fun n i wr => ∃ (k : Nat) (m : Int) (T : List Int), k ≤ 80 ∧ i = .int .i64 k ∧ n = .int .i64 m ∧ StepOk x y m T k ∧ Holds .i64 94 wr W.heap.size (x :: y :: m :: T) ∧ Holds .i64 81 wr h T ∧ Below W.heap.size W wr) (fun _ i _ => 80 - (intOf i).toNat)
  case atStart => exact ⟨0, 0, [0, 0, 0, 0], by omega, rfl, rfl, ⟨rfl, by omega, fun j hj => by rcases (show j = 0 ∨ j = 1 ∨ j = 2 ∨ j = 3 by omega) with rfl | rfl | rfl | rfl <;> simp⟩, HG2.out, HT2.out, HB2.out⟩
  case round =>
    obtain ⟨i, m, T, hi, rfl, rfl, hS, hG, hT, hB⟩ := hrel
    have HG := Aside0.mk hG
    have HT := Aside0.mk hT
    have HB := Aside0.mk hB
    have HS := Aside0.mk hS
    have hm := hS.n0
    have HLEN := Aside0.mk hS.len
    clear hG hT hB HG2 HT2 HB2 HZ2
    by_cases hlt : i < l.length ∧ i < 80
    · obtain ⟨hlt, h80⟩ := hlt
      obtain ⟨ca, cb⟩ := HC.out i hlt
      obtain ⟨gv, hgv⟩ : ∃ gv, (l[i]).1 = gv := ⟨_, rfl⟩
      obtain ⟨kt, hto⟩ : ∃ kt, (l[i]).2.1 = kt := ⟨_, rfl⟩
      rw [hgv] at ca
      rw [hto] at cb
      have ha := World.block_lt_of_cell? _ _ ca
      have cw := (HB.out.cell (p := a.add (i * 2)) ha).trans ca
      have dw := (HB.out.cell (p := ⟨(a.add (i * 2)).block, (a.add (i * 2)).off + 1, none⟩) ha).trans cb
      have HA := Aside0.mk ha
      clear hgv hto ca cb hS ha
      obtain ⟨q, hq⟩ : ∃ q : Nat, Go.bits .and .i64 (i : Int) 7 = (q : Int) := ⟨i % 8, by rw [i64_and7]; omega⟩
      by_cases hq0 : q = 0
      · subst hq0
        by_cases hin : 0 ≤ kt ∧ kt < 4
        · obtain ⟨j, rfl⟩ := Int.eq_ofNat_of_zero_le hin.1
          have hj : j < 4 := by omega
          have hand : Go.bits .and .i64 (j : Int) 3 = (j : Int) := by rw [i64_and3]; omega
          clear hin
          have hjl : j < T.length := by have := HLEN.out; omega
          obtain ⟨v, hv⟩ : ∃ v, T[j]?.getD 0 = v := ⟨_, rfl⟩
          have hv0 := HS.out.t0 j hj
          rw [hv] at hv0
          have HV := Aside0.mk hv
          clear hv
          have ct := HT.out.cell hjl
          rw [HV.out] at ct
          have ft := HT.out.free j
          have H7 := Aside0.mk (show (x :: y :: m :: T).length = 7 by have := HLEN.out; simp [this])
          have HJL := Aside0.mk hjl
          clear hjl
          cases gv
          · by_cases hfull : m < x
            · by_cases heach : v < y
              · have hcall := Aside0.mk (takeL_yes W.heap.size j hj (x :: y :: m :: T) H7.out wr HG.out hfull (by rw [get3, HV.out]; exact heach) (by rw [get3, HV.out]; simp; omega))
                go_wp2_with fail
                refine hcall.out.mono ?_
                rintro e w5 ⟨rfl, hG5, hO5⟩
                have HG5 := Aside0.mk (show Holds .i64 94 w5 W.heap.size (x :: y :: (m + 1) :: T.set j (v + 1)) by rw [← set3]; have h := hG5; rw [get3, HV.out] at h; exact h)
                have HT5 := Aside0.mk (hO5.blk (k := h) (by omega) HT.out)
                have HB5 := Aside0.mk (hO5.below HB.out (Nat.le_refl _) HB.out.size)
                have c5 := Holds.cell HT5.out HJL.out
                have f5 := Holds.free HT5.out j
                rw [HV.out] at c5
                clear hG5 hO5
                go_wp2_with fail
                have HT6 := Aside0.mk (Holds.set HT5.out j (v + 1))
                have HG6 := Aside0.mk (show Holds .i64 94 (w5.setCell ⟨h, j, none⟩ (.int .i64 (v + 1))) W.heap.size (x :: y :: (m + 1) :: T.set j (v + 1)) from set_other _ HG5.out (by show W.heap.size ≠ h; omega))
                have HB6 := Aside0.mk (HB5.out.setCell (p := ⟨h, j, none⟩) (by show W.heap.size ≤ h; omega) (.int .i64 (v + 1)))
                generalize w5.setCell ⟨h, j, none⟩ (.int .i64 (v + 1)) = w6 at HT6 HG6 HB6 ⊢
                have HVS := Aside0.mk (show (T.set j (v + 1))[j]?.getD 0 = v + 1 by rw [List.getElem?_set_self HJL.out]; rfl)
                clear HT5 HG5 HB5 c5 f5
                have hlenc : ∀ nn, Calls Try.prog 52 #[.pointer (some ⟨W.heap.size, 0, none⟩)] (w6.drewN nn) fun r w' => r = .returned (.int .i64 (m + 1)) ∧ ∃ mm, w' = (w6.drewN nn).drewN mm := fun nn => lenL W.heap.size (x :: y :: (m + 1) :: (T.set j (v + 1))) (by have := HLEN.out; simp [this]) _ (HG6.out.drewN nn)
                have htoc : ∀ nn, Calls Try.prog 53 #[.pointer (some ⟨W.heap.size, 0, none⟩), .int .i64 (j : Int)] (w6.drewN nn) fun r w' => r = .returned (.int .i64 (v + 1)) ∧ ∃ mm, w' = (w6.drewN nn).drewN mm := fun nn => by
                  have h := toL W.heap.size j hj (x :: y :: (m + 1) :: (T.set j (v + 1))) (by have := HLEN.out; simp [this]) _ (HG6.out.drewN nn)
                  rw [get3, HVS.out] at h
                  exact h
                have HLC := Aside0.mk hlenc
                have HTC := Aside0.mk htoc
                have c6 := Holds.cell HT6.out (i := j) (by have := HJL.out; simp; omega)
                rw [HVS.out] at c6
                clear hlenc htoc
                go_quiet ((first | (go_at_call 52; exact q_of (HLC.out _)) | (go_at_call 53; exact q_of (HTC.out _))))
                go_wp2
                go_roundw
                case rel => exact ⟨i + 1, m + 1, (T.set j (v + 1)), by omega, by go_num, rfl, (by have h := HS.out.up (j := j) hj; rwa [HV.out] at h), HG6.out.drewN _, HT6.out.drewN _, below_drewN HB6.out _⟩
                case measure => simp [intOf]; omega
              · have hcall := Aside0.mk (takeL_each W.heap.size j hj (x :: y :: m :: T) H7.out wr HG.out hfull (by rw [get3, HV.out]; simp; omega))
                go_wp2_with fail
                refine hcall.out.mono ?_
                rintro e w' ⟨rfl, n1, rfl⟩
                have HT6 := Aside0.mk (HT.out.drewN n1)
                have HG6 := Aside0.mk (HG.out.drewN n1)
                have HB6 := Aside0.mk (below_drewN HB.out n1)
                have HVS := HV
                generalize wr.drewN n1 = w6 at HT6 HG6 HB6 ⊢
                go_wp2_with fail
                have hlenc : ∀ nn, Calls Try.prog 52 #[.pointer (some ⟨W.heap.size, 0, none⟩)] (w6.drewN nn) fun r w' => r = .returned (.int .i64 (m)) ∧ ∃ mm, w' = (w6.drewN nn).drewN mm := fun nn => lenL W.heap.size (x :: y :: (m) :: T) (by have := HLEN.out; simp [this]) _ (HG6.out.drewN nn)
                have htoc : ∀ nn, Calls Try.prog 53 #[.pointer (some ⟨W.heap.size, 0, none⟩), .int .i64 (j : Int)] (w6.drewN nn) fun r w' => r = .returned (.int .i64 (v)) ∧ ∃ mm, w' = (w6.drewN nn).drewN mm := fun nn => by
                  have h := toL W.heap.size j hj (x :: y :: (m) :: T) (by have := HLEN.out; simp [this]) _ (HG6.out.drewN nn)
                  rw [get3, HVS.out] at h
                  exact h
                have HLC := Aside0.mk hlenc
                have HTC := Aside0.mk htoc
                have c6 := Holds.cell HT6.out (i := j) (by have := HJL.out; simp; omega)
                rw [HVS.out] at c6
                clear hlenc htoc
                go_quiet ((first | (go_at_call 52; exact q_of (HLC.out _)) | (go_at_call 53; exact q_of (HTC.out _))))
                go_wp2
                go_roundw
                case rel => exact ⟨i + 1, m, T, by omega, by go_num, rfl, HS.out.keep, HG6.out.drewN _, HT6.out.drewN _, below_drewN HB6.out _⟩
                case measure => simp [intOf]; omega
            · have hcall := Aside0.mk (takeL_full W.heap.size j hj (x :: y :: m :: T) H7.out wr HG.out (by simp; omega))
              go_wp2_with fail
              refine hcall.out.mono ?_
              rintro e w' ⟨rfl, n1, rfl⟩
              have HT6 := Aside0.mk (HT.out.drewN n1)
              have HG6 := Aside0.mk (HG.out.drewN n1)
              have HB6 := Aside0.mk (below_drewN HB.out n1)
              have HVS := HV
              generalize wr.drewN n1 = w6 at HT6 HG6 HB6 ⊢
              go_wp2_with fail
              have hlenc : ∀ nn, Calls Try.prog 52 #[.pointer (some ⟨W.heap.size, 0, none⟩)] (w6.drewN nn) fun r w' => r = .returned (.int .i64 (m)) ∧ ∃ mm, w' = (w6.drewN nn).drewN mm := fun nn => lenL W.heap.size (x :: y :: (m) :: T) (by have := HLEN.out; simp [this]) _ (HG6.out.drewN nn)
              have htoc : ∀ nn, Calls Try.prog 53 #[.pointer (some ⟨W.heap.size, 0, none⟩), .int .i64 (j : Int)] (w6.drewN nn) fun r w' => r = .returned (.int .i64 (v)) ∧ ∃ mm, w' = (w6.drewN nn).drewN mm := fun nn => by
                have h := toL W.heap.size j hj (x :: y :: (m) :: T) (by have := HLEN.out; simp [this]) _ (HG6.out.drewN nn)
                rw [get3, HVS.out] at h
                exact h
              have HLC := Aside0.mk hlenc
              have HTC := Aside0.mk htoc
              have c6 := Holds.cell HT6.out (i := j) (by have := HJL.out; simp; omega)
              rw [HVS.out] at c6
              clear hlenc htoc
              go_quiet ((first | (go_at_call 52; exact q_of (HLC.out _)) | (go_at_call 53; exact q_of (HTC.out _))))
              go_wp2
              go_roundw
              case rel => exact ⟨i + 1, m, T, by omega, by go_num, rfl, HS.out.keep, HG6.out.drewN _, HT6.out.drewN _, below_drewN HB6.out _⟩
              case measure => simp [intOf]; omega
          · by_cases hpos : 0 < v
            · have hcall := Aside0.mk (giveL_yes W.heap.size j hj (x :: y :: m :: T) H7.out wr HG.out (by rw [get3, HV.out]; exact hpos) (by rw [get3, HV.out]; simp; omega))
              go_wp2_with fail
              refine hcall.out.mono ?_
              rintro e w5 ⟨rfl, hG5, hO5⟩
              have HG5 := Aside0.mk (show Holds .i64 94 w5 W.heap.size (x :: y :: (m - 1) :: T.set j (v - 1)) by rw [← set3]; have h := hG5; rw [get3, HV.out] at h; exact h)
              have HT5 := Aside0.mk (hO5.blk (k := h) (by omega) HT.out)
              have HB5 := Aside0.mk (hO5.below HB.out (Nat.le_refl _) HB.out.size)
              have c5 := Holds.cell HT5.out HJL.out
              have f5 := Holds.free HT5.out j
              rw [HV.out] at c5
              clear hG5 hO5
              go_wp2_with fail
              have HT6 := Aside0.mk (Holds.set HT5.out j (v - 1))
              have HG6 := Aside0.mk (show Holds .i64 94 (w5.setCell ⟨h, j, none⟩ (.int .i64 (v - 1))) W.heap.size (x :: y :: (m - 1) :: T.set j (v - 1)) from set_other _ HG5.out (by show W.heap.size ≠ h; omega))
              have HB6 := Aside0.mk (HB5.out.setCell (p := ⟨h, j, none⟩) (by show W.heap.size ≤ h; omega) (.int .i64 (v - 1)))
              generalize w5.setCell ⟨h, j, none⟩ (.int .i64 (v - 1)) = w6 at HT6 HG6 HB6 ⊢
              have HVS := Aside0.mk (show (T.set j (v - 1))[j]?.getD 0 = v - 1 by rw [List.getElem?_set_self HJL.out]; rfl)
              clear HT5 HG5 HB5 c5 f5
              have hlenc : ∀ nn, Calls Try.prog 52 #[.pointer (some ⟨W.heap.size, 0, none⟩)] (w6.drewN nn) fun r w' => r = .returned (.int .i64 (m - 1)) ∧ ∃ mm, w' = (w6.drewN nn).drewN mm := fun nn => lenL W.heap.size (x :: y :: (m - 1) :: (T.set j (v - 1))) (by have := HLEN.out; simp [this]) _ (HG6.out.drewN nn)
              have htoc : ∀ nn, Calls Try.prog 53 #[.pointer (some ⟨W.heap.size, 0, none⟩), .int .i64 (j : Int)] (w6.drewN nn) fun r w' => r = .returned (.int .i64 (v - 1)) ∧ ∃ mm, w' = (w6.drewN nn).drewN mm := fun nn => by
                have h := toL W.heap.size j hj (x :: y :: (m - 1) :: (T.set j (v - 1))) (by have := HLEN.out; simp [this]) _ (HG6.out.drewN nn)
                rw [get3, HVS.out] at h
                exact h
              have HLC := Aside0.mk hlenc
              have HTC := Aside0.mk htoc
              have c6 := Holds.cell HT6.out (i := j) (by have := HJL.out; simp; omega)
              rw [HVS.out] at c6
              clear hlenc htoc
              go_quiet ((first | (go_at_call 52; exact q_of (HLC.out _)) | (go_at_call 53; exact q_of (HTC.out _))))
              go_wp2
              go_roundw
              case rel => exact ⟨i + 1, m - 1, (T.set j (v - 1)), by omega, by go_num, rfl, (by have h := HS.out.down (j := j) hj (by rw [HV.out]; omega); rwa [HV.out] at h), HG6.out.drewN _, HT6.out.drewN _, below_drewN HB6.out _⟩
              case measure => simp [intOf]; omega
            · obtain rfl : v = 0 := by omega
              have hcall := Aside0.mk (giveL_none W.heap.size j hj (x :: y :: m :: T) H7.out wr HG.out (by rw [get3, HV.out]))
              go_wp2_with fail
              refine hcall.out.mono ?_
              rintro e w' ⟨rfl, n1, rfl⟩
              have HT6 := Aside0.mk (HT.out.drewN n1)
              have HG6 := Aside0.mk (HG.out.drewN n1)
              have HB6 := Aside0.mk (below_drewN HB.out n1)
              have HVS := HV
              generalize wr.drewN n1 = w6 at HT6 HG6 HB6 ⊢
              go_wp2_with fail
              have hlenc : ∀ nn, Calls Try.prog 52 #[.pointer (some ⟨W.heap.size, 0, none⟩)] (w6.drewN nn) fun r w' => r = .returned (.int .i64 (m)) ∧ ∃ mm, w' = (w6.drewN nn).drewN mm := fun nn => lenL W.heap.size (x :: y :: (m) :: T) (by have := HLEN.out; simp [this]) _ (HG6.out.drewN nn)
              have htoc : ∀ nn, Calls Try.prog 53 #[.pointer (some ⟨W.heap.size, 0, none⟩), .int .i64 (j : Int)] (w6.drewN nn) fun r w' => r = .returned (.int .i64 (0)) ∧ ∃ mm, w' = (w6.drewN nn).drewN mm := fun nn => by
                have h := toL W.heap.size j hj (x :: y :: (m) :: T) (by have := HLEN.out; simp [this]) _ (HG6.out.drewN nn)
                rw [get3, HVS.out] at h
                exact h
              have HLC := Aside0.mk hlenc
              have HTC := Aside0.mk htoc
              have c6 := Holds.cell HT6.out (i := j) (by have := HJL.out; simp; omega)
              rw [HVS.out] at c6
              clear hlenc htoc
              go_quiet ((first | (go_at_call 52; exact q_of (HLC.out _)) | (go_at_call 53; exact q_of (HTC.out _))))
              go_wp2
              go_roundw
              case rel => exact ⟨i + 1, m, T, by omega, by go_num, rfl, HS.out.keep, HG6.out.drewN _, HT6.out.drewN _, below_drewN HB6.out _⟩
              case measure => simp [intOf]; omega
        · have hout : kt < 0 ∨ 4 ≤ kt := by omega
          clear hin
          rcases hout with hout' | hout'
          · have hout : kt < 0 ∨ 4 ≤ kt := by omega
            have HO := Aside0.mk hout
            clear hout
            cases gv
            · have hcall := Aside0.mk (take_out W.heap.size kt HO.out wr)
              go_wp2_with fail
              refine hcall.out.mono ?_
              rintro e w' ⟨rfl, n1, rfl⟩
              have HT6 := Aside0.mk (HT.out.drewN n1)
              have HG6 := Aside0.mk (HG.out.drewN n1)
              have HB6 := Aside0.mk (below_drewN HB.out n1)
              generalize wr.drewN n1 = w6 at HT6 HG6 HB6 ⊢
              go_wp2_with fail
              have HLC := Aside0.mk (show ∀ nn, Calls Try.prog 52 #[.pointer (some ⟨W.heap.size, 0, none⟩)] (w6.drewN nn) fun r w' => r = .returned (.int .i64 m) ∧ ∃ mm, w' = (w6.drewN nn).drewN mm from fun nn => lenL W.heap.size (x :: y :: m :: T) (by have := HLEN.out; simp [this]) _ (HG6.out.drewN nn))
              go_quiet ((first | (go_at_call 52; exact q_of (HLC.out _)) | (go_at_call 53; exact q_of (to_out _ kt HO.out _))))
              go_wp2
              go_roundw
              case rel => exact ⟨i + 1, m, T, by omega, by go_num, rfl, HS.out.keep, HG6.out.drewN _, HT6.out.drewN _, below_drewN HB6.out _⟩
              case measure => simp [intOf]; omega
            · have hcall := Aside0.mk (give_out W.heap.size kt HO.out wr)
              go_wp2_with fail
              refine hcall.out.mono ?_
              rintro e w' ⟨rfl, n1, rfl⟩
              have HT6 := Aside0.mk (HT.out.drewN n1)
              have HG6 := Aside0.mk (HG.out.drewN n1)
              have HB6 := Aside0.mk (below_drewN HB.out n1)
              generalize wr.drewN n1 = w6 at HT6 HG6 HB6 ⊢
              go_wp2_with fail
              have HLC := Aside0.mk (show ∀ nn, Calls Try.prog 52 #[.pointer (some ⟨W.heap.size, 0, none⟩)] (w6.drewN nn) fun r w' => r = .returned (.int .i64 m) ∧ ∃ mm, w' = (w6.drewN nn).drewN mm from fun nn => lenL W.heap.size (x :: y :: m :: T) (by have := HLEN.out; simp [this]) _ (HG6.out.drewN nn))
              go_quiet ((first | (go_at_call 52; exact q_of (HLC.out _)) | (go_at_call 53; exact q_of (to_out _ kt HO.out _))))
              go_wp2
              go_roundw
              case rel => exact ⟨i + 1, m, T, by omega, by go_num, rfl, HS.out.keep, HG6.out.drewN _, HT6.out.drewN _, below_drewN HB6.out _⟩
              case measure => simp [intOf]; omega
          · have hout : kt < 0 ∨ 4 ≤ kt := by omega
            have HO := Aside0.mk hout
            clear hout
            cases gv
            · have hcall := Aside0.mk (take_out W.heap.size kt HO.out wr)
              go_wp2_with fail
              refine hcall.out.mono ?_
              rintro e w' ⟨rfl, n1, rfl⟩
              have HT6 := Aside0.mk (HT.out.drewN n1)
              have HG6 := Aside0.mk (HG.out.drewN n1)
              have HB6 := Aside0.mk (below_drewN HB.out n1)
              generalize wr.drewN n1 = w6 at HT6 HG6 HB6 ⊢
              go_wp2_with fail
              have HLC := Aside0.mk (show ∀ nn, Calls Try.prog 52 #[.pointer (some ⟨W.heap.size, 0, none⟩)] (w6.drewN nn) fun r w' => r = .returned (.int .i64 m) ∧ ∃ mm, w' = (w6.drewN nn).drewN mm from fun nn => lenL W.heap.size (x :: y :: m :: T) (by have := HLEN.out; simp [this]) _ (HG6.out.drewN nn))
              go_quiet ((first | (go_at_call 52; exact q_of (HLC.out _)) | (go_at_call 53; exact q_of (to_out _ kt HO.out _))))
              go_wp2
              go_roundw
              case rel => exact ⟨i + 1, m, T, by omega, by go_num, rfl, HS.out.keep, HG6.out.drewN _, HT6.out.drewN _, below_drewN HB6.out _⟩
              case measure => simp [intOf]; omega
            · have hcall := Aside0.mk (give_out W.heap.size kt HO.out wr)
              go_wp2_with fail
              refine hcall.out.mono ?_
              rintro e w' ⟨rfl, n1, rfl⟩
              have HT6 := Aside0.mk (HT.out.drewN n1)
              have HG6 := Aside0.mk (HG.out.drewN n1)
              have HB6 := Aside0.mk (below_drewN HB.out n1)
              generalize wr.drewN n1 = w6 at HT6 HG6 HB6 ⊢
              go_wp2_with fail
              have HLC := Aside0.mk (show ∀ nn, Calls Try.prog 52 #[.pointer (some ⟨W.heap.size, 0, none⟩)] (w6.drewN nn) fun r w' => r = .returned (.int .i64 m) ∧ ∃ mm, w' = (w6.drewN nn).drewN mm from fun nn => lenL W.heap.size (x :: y :: m :: T) (by have := HLEN.out; simp [this]) _ (HG6.out.drewN nn))
              go_quiet ((first | (go_at_call 52; exact q_of (HLC.out _)) | (go_at_call 53; exact q_of (to_out _ kt HO.out _))))
              go_wp2
              go_roundw
              case rel => exact ⟨i + 1, m, T, by omega, by go_num, rfl, HS.out.keep, HG6.out.drewN _, HT6.out.drewN _, below_drewN HB6.out _⟩
              case measure => simp [intOf]; omega
      · obtain ⟨j, hj, hand0⟩ : ∃ j : Nat, j < 4 ∧ Go.bits .and .i64 kt 3 = (j : Int) := ⟨(kt % 4).toNat, by omega, by rw [i64_and3]; omega⟩
        have hand : Go.bits .and .i64 (j : Int) 3 = (j : Int) := by rw [i64_and3]; omega
        have hqp : 0 < q := by omega
        clear hq0
        have hjl : j < T.length := by have := HLEN.out; omega
        obtain ⟨v, hv⟩ : ∃ v, T[j]?.getD 0 = v := ⟨_, rfl⟩
        have hv0 := HS.out.t0 j hj
        rw [hv] at hv0
        have HV := Aside0.mk hv
        clear hv
        have ct := HT.out.cell hjl
        rw [HV.out] at ct
        have ft := HT.out.free j
        have H7 := Aside0.mk (show (x :: y :: m :: T).length = 7 by have := HLEN.out; simp [this])
        have HJL := Aside0.mk hjl
        clear hjl
        cases gv
        · by_cases hfull : m < x
          · by_cases heach : v < y
            · have hcall := Aside0.mk (takeL_yes W.heap.size j hj (x :: y :: m :: T) H7.out wr HG.out hfull (by rw [get3, HV.out]; exact heach) (by rw [get3, HV.out]; simp; omega))
              go_wp2_with fail
              refine hcall.out.mono ?_
              rintro e w5 ⟨rfl, hG5, hO5⟩
              have HG5 := Aside0.mk (show Holds .i64 94 w5 W.heap.size (x :: y :: (m + 1) :: T.set j (v + 1)) by rw [← set3]; have h := hG5; rw [get3, HV.out] at h; exact h)
              have HT5 := Aside0.mk (hO5.blk (k := h) (by omega) HT.out)
              have HB5 := Aside0.mk (hO5.below HB.out (Nat.le_refl _) HB.out.size)
              have c5 := Holds.cell HT5.out HJL.out
              have f5 := Holds.free HT5.out j
              rw [HV.out] at c5
              clear hG5 hO5
              go_wp2_with fail
              have HT6 := Aside0.mk (Holds.set HT5.out j (v + 1))
              have HG6 := Aside0.mk (show Holds .i64 94 (w5.setCell ⟨h, j, none⟩ (.int .i64 (v + 1))) W.heap.size (x :: y :: (m + 1) :: T.set j (v + 1)) from set_other _ HG5.out (by show W.heap.size ≠ h; omega))
              have HB6 := Aside0.mk (HB5.out.setCell (p := ⟨h, j, none⟩) (by show W.heap.size ≤ h; omega) (.int .i64 (v + 1)))
              generalize w5.setCell ⟨h, j, none⟩ (.int .i64 (v + 1)) = w6 at HT6 HG6 HB6 ⊢
              have HVS := Aside0.mk (show (T.set j (v + 1))[j]?.getD 0 = v + 1 by rw [List.getElem?_set_self HJL.out]; rfl)
              clear HT5 HG5 HB5 c5 f5
              have hlenc : ∀ nn, Calls Try.prog 52 #[.pointer (some ⟨W.heap.size, 0, none⟩)] (w6.drewN nn) fun r w' => r = .returned (.int .i64 (m + 1)) ∧ ∃ mm, w' = (w6.drewN nn).drewN mm := fun nn => lenL W.heap.size (x :: y :: (m + 1) :: (T.set j (v + 1))) (by have := HLEN.out; simp [this]) _ (HG6.out.drewN nn)
              have htoc : ∀ nn, Calls Try.prog 53 #[.pointer (some ⟨W.heap.size, 0, none⟩), .int .i64 (j : Int)] (w6.drewN nn) fun r w' => r = .returned (.int .i64 (v + 1)) ∧ ∃ mm, w' = (w6.drewN nn).drewN mm := fun nn => by
                have h := toL W.heap.size j hj (x :: y :: (m + 1) :: (T.set j (v + 1))) (by have := HLEN.out; simp [this]) _ (HG6.out.drewN nn)
                rw [get3, HVS.out] at h
                exact h
              have HLC := Aside0.mk hlenc
              have HTC := Aside0.mk htoc
              have c6 := Holds.cell HT6.out (i := j) (by have := HJL.out; simp; omega)
              rw [HVS.out] at c6
              clear hlenc htoc
              go_quiet ((first | (go_at_call 52; exact q_of (HLC.out _)) | (go_at_call 53; exact q_of (HTC.out _))))
              go_wp2
              go_roundw
              case rel => exact ⟨i + 1, m + 1, (T.set j (v + 1)), by omega, by go_num, rfl, (by have h := HS.out.up (j := j) hj; rwa [HV.out] at h), HG6.out.drewN _, HT6.out.drewN _, below_drewN HB6.out _⟩
              case measure => simp [intOf]; omega
            · have hcall := Aside0.mk (takeL_each W.heap.size j hj (x :: y :: m :: T) H7.out wr HG.out hfull (by rw [get3, HV.out]; simp; omega))
              go_wp2_with fail
              refine hcall.out.mono ?_
              rintro e w' ⟨rfl, n1, rfl⟩
              have HT6 := Aside0.mk (HT.out.drewN n1)
              have HG6 := Aside0.mk (HG.out.drewN n1)
              have HB6 := Aside0.mk (below_drewN HB.out n1)
              have HVS := HV
              generalize wr.drewN n1 = w6 at HT6 HG6 HB6 ⊢
              go_wp2_with fail
              have hlenc : ∀ nn, Calls Try.prog 52 #[.pointer (some ⟨W.heap.size, 0, none⟩)] (w6.drewN nn) fun r w' => r = .returned (.int .i64 (m)) ∧ ∃ mm, w' = (w6.drewN nn).drewN mm := fun nn => lenL W.heap.size (x :: y :: (m) :: T) (by have := HLEN.out; simp [this]) _ (HG6.out.drewN nn)
              have htoc : ∀ nn, Calls Try.prog 53 #[.pointer (some ⟨W.heap.size, 0, none⟩), .int .i64 (j : Int)] (w6.drewN nn) fun r w' => r = .returned (.int .i64 (v)) ∧ ∃ mm, w' = (w6.drewN nn).drewN mm := fun nn => by
                have h := toL W.heap.size j hj (x :: y :: (m) :: T) (by have := HLEN.out; simp [this]) _ (HG6.out.drewN nn)
                rw [get3, HVS.out] at h
                exact h
              have HLC := Aside0.mk hlenc
              have HTC := Aside0.mk htoc
              have c6 := Holds.cell HT6.out (i := j) (by have := HJL.out; simp; omega)
              rw [HVS.out] at c6
              clear hlenc htoc
              go_quiet ((first | (go_at_call 52; exact q_of (HLC.out _)) | (go_at_call 53; exact q_of (HTC.out _))))
              go_wp2
              go_roundw
              case rel => exact ⟨i + 1, m, T, by omega, by go_num, rfl, HS.out.keep, HG6.out.drewN _, HT6.out.drewN _, below_drewN HB6.out _⟩
              case measure => simp [intOf]; omega
          · have hcall := Aside0.mk (takeL_full W.heap.size j hj (x :: y :: m :: T) H7.out wr HG.out (by simp; omega))
            go_wp2_with fail
            refine hcall.out.mono ?_
            rintro e w' ⟨rfl, n1, rfl⟩
            have HT6 := Aside0.mk (HT.out.drewN n1)
            have HG6 := Aside0.mk (HG.out.drewN n1)
            have HB6 := Aside0.mk (below_drewN HB.out n1)
            have HVS := HV
            generalize wr.drewN n1 = w6 at HT6 HG6 HB6 ⊢
            go_wp2_with fail
            have hlenc : ∀ nn, Calls Try.prog 52 #[.pointer (some ⟨W.heap.size, 0, none⟩)] (w6.drewN nn) fun r w' => r = .returned (.int .i64 (m)) ∧ ∃ mm, w' = (w6.drewN nn).drewN mm := fun nn => lenL W.heap.size (x :: y :: (m) :: T) (by have := HLEN.out; simp [this]) _ (HG6.out.drewN nn)
            have htoc : ∀ nn, Calls Try.prog 53 #[.pointer (some ⟨W.heap.size, 0, none⟩), .int .i64 (j : Int)] (w6.drewN nn) fun r w' => r = .returned (.int .i64 (v)) ∧ ∃ mm, w' = (w6.drewN nn).drewN mm := fun nn => by
              have h := toL W.heap.size j hj (x :: y :: (m) :: T) (by have := HLEN.out; simp [this]) _ (HG6.out.drewN nn)
              rw [get3, HVS.out] at h
              exact h
            have HLC := Aside0.mk hlenc
            have HTC := Aside0.mk htoc
            have c6 := Holds.cell HT6.out (i := j) (by have := HJL.out; simp; omega)
            rw [HVS.out] at c6
            clear hlenc htoc
            go_quiet ((first | (go_at_call 52; exact q_of (HLC.out _)) | (go_at_call 53; exact q_of (HTC.out _))))
            go_wp2
            go_roundw
            case rel => exact ⟨i + 1, m, T, by omega, by go_num, rfl, HS.out.keep, HG6.out.drewN _, HT6.out.drewN _, below_drewN HB6.out _⟩
            case measure => simp [intOf]; omega
        · by_cases hpos : 0 < v
          · have hcall := Aside0.mk (giveL_yes W.heap.size j hj (x :: y :: m :: T) H7.out wr HG.out (by rw [get3, HV.out]; exact hpos) (by rw [get3, HV.out]; simp; omega))
            go_wp2_with fail
            refine hcall.out.mono ?_
            rintro e w5 ⟨rfl, hG5, hO5⟩
            have HG5 := Aside0.mk (show Holds .i64 94 w5 W.heap.size (x :: y :: (m - 1) :: T.set j (v - 1)) by rw [← set3]; have h := hG5; rw [get3, HV.out] at h; exact h)
            have HT5 := Aside0.mk (hO5.blk (k := h) (by omega) HT.out)
            have HB5 := Aside0.mk (hO5.below HB.out (Nat.le_refl _) HB.out.size)
            have c5 := Holds.cell HT5.out HJL.out
            have f5 := Holds.free HT5.out j
            rw [HV.out] at c5
            clear hG5 hO5
            go_wp2_with fail
            have HT6 := Aside0.mk (Holds.set HT5.out j (v - 1))
            have HG6 := Aside0.mk (show Holds .i64 94 (w5.setCell ⟨h, j, none⟩ (.int .i64 (v - 1))) W.heap.size (x :: y :: (m - 1) :: T.set j (v - 1)) from set_other _ HG5.out (by show W.heap.size ≠ h; omega))
            have HB6 := Aside0.mk (HB5.out.setCell (p := ⟨h, j, none⟩) (by show W.heap.size ≤ h; omega) (.int .i64 (v - 1)))
            generalize w5.setCell ⟨h, j, none⟩ (.int .i64 (v - 1)) = w6 at HT6 HG6 HB6 ⊢
            have HVS := Aside0.mk (show (T.set j (v - 1))[j]?.getD 0 = v - 1 by rw [List.getElem?_set_self HJL.out]; rfl)
            clear HT5 HG5 HB5 c5 f5
            have hlenc : ∀ nn, Calls Try.prog 52 #[.pointer (some ⟨W.heap.size, 0, none⟩)] (w6.drewN nn) fun r w' => r = .returned (.int .i64 (m - 1)) ∧ ∃ mm, w' = (w6.drewN nn).drewN mm := fun nn => lenL W.heap.size (x :: y :: (m - 1) :: (T.set j (v - 1))) (by have := HLEN.out; simp [this]) _ (HG6.out.drewN nn)
            have htoc : ∀ nn, Calls Try.prog 53 #[.pointer (some ⟨W.heap.size, 0, none⟩), .int .i64 (j : Int)] (w6.drewN nn) fun r w' => r = .returned (.int .i64 (v - 1)) ∧ ∃ mm, w' = (w6.drewN nn).drewN mm := fun nn => by
              have h := toL W.heap.size j hj (x :: y :: (m - 1) :: (T.set j (v - 1))) (by have := HLEN.out; simp [this]) _ (HG6.out.drewN nn)
              rw [get3, HVS.out] at h
              exact h
            have HLC := Aside0.mk hlenc
            have HTC := Aside0.mk htoc
            have c6 := Holds.cell HT6.out (i := j) (by have := HJL.out; simp; omega)
            rw [HVS.out] at c6
            clear hlenc htoc
            go_quiet ((first | (go_at_call 52; exact q_of (HLC.out _)) | (go_at_call 53; exact q_of (HTC.out _))))
            go_wp2
            go_roundw
            case rel => exact ⟨i + 1, m - 1, (T.set j (v - 1)), by omega, by go_num, rfl, (by have h := HS.out.down (j := j) hj (by rw [HV.out]; omega); rwa [HV.out] at h), HG6.out.drewN _, HT6.out.drewN _, below_drewN HB6.out _⟩
            case measure => simp [intOf]; omega
          · obtain rfl : v = 0 := by omega
            have hcall := Aside0.mk (giveL_none W.heap.size j hj (x :: y :: m :: T) H7.out wr HG.out (by rw [get3, HV.out]))
            go_wp2_with fail
            refine hcall.out.mono ?_
            rintro e w' ⟨rfl, n1, rfl⟩
            have HT6 := Aside0.mk (HT.out.drewN n1)
            have HG6 := Aside0.mk (HG.out.drewN n1)
            have HB6 := Aside0.mk (below_drewN HB.out n1)
            have HVS := HV
            generalize wr.drewN n1 = w6 at HT6 HG6 HB6 ⊢
            go_wp2_with fail
            have hlenc : ∀ nn, Calls Try.prog 52 #[.pointer (some ⟨W.heap.size, 0, none⟩)] (w6.drewN nn) fun r w' => r = .returned (.int .i64 (m)) ∧ ∃ mm, w' = (w6.drewN nn).drewN mm := fun nn => lenL W.heap.size (x :: y :: (m) :: T) (by have := HLEN.out; simp [this]) _ (HG6.out.drewN nn)
            have htoc : ∀ nn, Calls Try.prog 53 #[.pointer (some ⟨W.heap.size, 0, none⟩), .int .i64 (j : Int)] (w6.drewN nn) fun r w' => r = .returned (.int .i64 (0)) ∧ ∃ mm, w' = (w6.drewN nn).drewN mm := fun nn => by
              have h := toL W.heap.size j hj (x :: y :: (m) :: T) (by have := HLEN.out; simp [this]) _ (HG6.out.drewN nn)
              rw [get3, HVS.out] at h
              exact h
            have HLC := Aside0.mk hlenc
            have HTC := Aside0.mk htoc
            have c6 := Holds.cell HT6.out (i := j) (by have := HJL.out; simp; omega)
            rw [HVS.out] at c6
            clear hlenc htoc
            go_quiet ((first | (go_at_call 52; exact q_of (HLC.out _)) | (go_at_call 53; exact q_of (HTC.out _))))
            go_wp2
            go_roundw
            case rel => exact ⟨i + 1, m, T, by omega, by go_num, rfl, HS.out.keep, HG6.out.drewN _, HT6.out.drewN _, below_drewN HB6.out _⟩
            case measure => simp [intOf]; omega
    · have hle : (l.length ≤ i ∨ 80 ≤ i) := by omega
      clear hS
      by_cases h1 : i < l.length
      · obtain rfl : i = 80 := by omega
        go_wp2_with (first | (go_at_call 54; refine (awake_calls _).mono ?_; rintro e w3 ⟨rfl, hb3⟩))
        go_ret
        exact ⟨rfl, HB.out.trans (hb3.mono HB.out.size)⟩
      · go_wp2_with (first | (go_at_call 54; refine (awake_calls _).mono ?_; rintro e w3 ⟨rfl, hb3⟩))
        go_ret
        exact ⟨rfl, HB.out.trans (hb3.mono HB.out.size)⟩

set_option maxHeartbeats 4000000 in
set_option maxRecDepth 100000 in
theorem core0 (a0 a1 : Int) (x y : Int) (W : World) (HX : Go.bits .and .i64 a0 15 = x) (hx : 0 ≤ x ∧ x ≤ 15) (HY : Go.bits .and .i64 a1 7 = y) (hy : 0 ≤ y ∧ y ≤ 7) :
    Calls Try.prog 13 #[.int .i64 a0, .int .i64 a1, .slice none 0 0] W fun e W' => e = .returned (.bool true) ∧ Below W.heap.size W W' := by
  have hx' : mn (mx x 0) 64 = x := by unfold mn mx; split <;> split <;> omega
  have hy' : mn (mx y 0) 64 = y := by unfold mn mx; split <;> split <;> omega
  have HNEW := Aside0.mk (newL x y x y W hx' hy')
  clear hx' hy'
  go_enter Try.func13, Try.ntmps13
  go_wp2_with fail
  refine HNEW.out.mono ?_
  rintro e w1 ⟨rfl, hG, hB, hz⟩
  clear HNEW
  have HB := Aside0.mk hB
  clear hG hB
  go_wp2_with fail
  have HB2 := Aside0.mk (show Below W.heap.size W (w1.alloc (.cells (arr .i64 [0, 0, 0, 0]) 81)) from HB.out.alloc (by omega) _)
  generalize hW2 : (w1.alloc (.cells (arr .i64 [0, 0, 0, 0]) 81)) = W2 at HB2
  rw [show (w1.alloc (Obj.cells #[Value.int IntKind.i64 0, Value.int IntKind.i64 0, Value.int IntKind.i64 0, Value.int IntKind.i64 0] 81)) = W2 from hW2]
  clear hW2 HB
  go_loopw [11, 12] (fun n i wr => i = .int .i64 0 ∧ Below W.heap.size W wr) (fun _ i _ => 0)
  case atStart => exact ⟨rfl, HB2.out⟩
  case round =>
    obtain ⟨rfl, hB⟩ := hrel
    have HB := Aside0.mk hB
    clear hB
    go_wp2_with (first | (go_at_call 54; refine (awake_calls _).mono ?_; rintro e w3 ⟨rfl, hb3⟩))
    go_ret
    exact ⟨rfl, HB.out.trans (hb3.mono HB.out.size)⟩

theorem walk (a0 : Int) (a1 : Int) (A2 : Option Addr) (c2 : Nat) (l2 : List (Pts [.bool, .int .i64])) (W : World) (w0 : (Lit.int .i64 a0).wf = true) (w1 : (Lit.int .i64 a1).wf = true) (ro2 : RowsOf W [.bool, .int .i64] A2 l2) (w2 : ∀ x ∈ l2, wfs [.bool, .int .i64] x) (lc2 : l2.length ≤ c2) (cm2 : c2 ≤ maxLen) (nn2 : A2 = none → c2 = 0) :
    Calls Try.prog 13 #[.int .i64 a0, .int .i64 a1, .slice A2 l2.length c2] W fun e W' => e = .returned (.bool true) ∧ Below W.heap.size W W' := by
  have hl0 : l2.length ≤ 9223372036854775807 := by unfold maxLen at cm2; omega
  cases A2 with
  | none =>
    obtain rfl : c2 = 0 := nn2 rfl
    rw [show l2.length = 0 by omega]
    exact core0 a0 a1 (a0 % 16) (a1 % 8) W (i64_and15 a0) (by omega) (i64_and7 a1) (by omega)
  | some a =>
    refine core a0 a1 a l2 c2 (a0 % 16) (a1 % 8) W (i64_and15 a0) (by omega) (i64_and7 a1) (by omega) hl0 lc2 (fun i hi => ?_)
    obtain ⟨b, hb, h⟩ := ro2 i hi
    injection hb with hb
    subst hb
    have h0 := h 0 (by decide)
    have h1 := h 1 (by decide)
    constructor
    · exact h0
    · have e : (a.add (i * 2)).add 1 = a.add (i * 2 + 1) := Open.add_add a (i * 2) 1
      have e2 : (a.add (i * 2)).add 1 = ⟨(a.add (i * 2)).block, (a.add (i * 2)).off + 1, none⟩ := rfl
      rw [← e2, e]
      exact h1
end Go.Proofs.Ytidefefaealheaa.walkAdmitPlays
