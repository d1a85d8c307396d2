/- Those that may take more, by what they have to do, then their places; whether it is even: the walk of RouteOrder. -/
import Derived.Test.YtbbaonaahokidaaOrd
import Derived.Test.YtbbaonaahokidaaOpen
namespace Go.Proofs.Ytbbaonaahokidaa.walkRouteOrder
open Go.RowKit Go.Proofs.YtbbaonaahokidaaW.PrintWords Go.Proofs.YtbbaonaahokidaaW.PrintLast Go.Proofs.YtbbaonaahokidaaW.PrintMore Go.Proofs.Ytbbaonaahokidaa.Open Go.Proofs.Ytbbaonaahokidaa.Aid Go.Proofs.Ytbbaonaahokidaa.Quiet Go.Proofs.Ytbbaonaahokidaa.Blk Go.Proofs.Ytbbaonaahokidaa.State Go.Proofs.Ytbbaonaahokidaa.Vals Go.Proofs.Ytbbaonaahokidaa.Srt Go.Proofs.Ytbbaonaahokidaa.Ord Go.Proofs.Ytbbaonaahokidaa.Route
set_option linter.unusedVariables false
set_option linter.unusedSimpArgs false
attribute [local go_sem] max2_int min2_int max_two min_two

/-- Cells that hold these places. -/
def ORow (w : World) (OA : Option Addr) (Q : List Nat) : Prop := ∀ i (h : i < Q.length), ∃ ad, OA = some ad ∧ w.cell? (ad.add i) = some (.int .i64 (Q[i] : Int))
theorem ordR_row {w : World} {B : Nat} {v : Value} {l : List Int} {Q : List Nat} (h : OrdR w B v l Q) : ∃ OA oc, v = .slice OA Q.length oc ∧ ORow w OA Q := by
  rcases h with ⟨rfl, A, c, rfl⟩ | ⟨og, oc, rfl, h, _⟩
  · exact ⟨A, c, rfl, fun i hi => absurd hi (by simp)⟩
  · refine ⟨_, oc, rfl, fun i hi => ⟨_, rfl, ?_⟩⟩
    have e : (⟨og, 0, none⟩ : Addr).add i = ⟨og, i, none⟩ := by
      unfold Addr.add
      split
      · subst_vars; rfl
      · simp
    rw [e]
    exact h.cell i _ (List.getElem?_eq_getElem hi)
theorem ORow.next {w w' : World} {OA : Option Addr} {Q : List Nat} (h : ORow w OA Q) (hb : Below w.heap.size w w') : ORow w' OA Q := fun i hi => by
  obtain ⟨ad, h1, h2⟩ := h i hi
  exact ⟨ad, h1, (hb.cell (World.block_lt_of_cell? _ _ h2)).trans h2⟩
def XRow (w : World) (A : Option Addr) (l : List Int) : Prop := ∀ i (h : i < l.length), ∃ ad, A = some ad ∧ w.cell? (ad.add i) = some (.int .i64 l[i])
theorem XRow.next {w w' : World} {A : Option Addr} {l : List Int} (h : XRow w A l) (hb : Below w.heap.size w w') : XRow w' A l := fun i hi => by
  obtain ⟨ad, h1, h2⟩ := h i hi
  exact ⟨ad, h1, (hb.cell (World.block_lt_of_cell? _ _ h2)).trans h2⟩
/-- Whether it is even, as far as it was looked at. -/
def ev (Y : List Int) (i k : Nat) : Bool := ((List.range i).all fun a => (List.range Y.length).all fun b => decide (Y[a]?.getD 0 - Y[b]?.getD 0 ≤ 1)) && ((List.range k).all fun b => decide (Y[i]?.getD 0 - Y[b]?.getD 0 ≤ 1))
theorem ev_step (Y : List Int) (i k : Nat) : ev Y i (k + 1) = (ev Y i k && decide (Y[i]?.getD 0 - Y[k]?.getD 0 ≤ 1)) := by
  simp [ev, List.range_succ, Bool.and_assoc]
theorem ev_row (Y : List Int) (i : Nat) : ev Y i Y.length = ev Y (i + 1) 0 := by
  simp [ev, List.range_succ]
theorem ev_end (Y : List Int) (h : 1 ≤ Y.length) : even Y = ev Y Y.length 0 := by
  rw [Bool.eq_iff_iff, even_iff Y h]
  simp [ev]
  constructor
  · intro h a ha b hb
    have := h a b ha hb
    simpa using this
  · intro h a b ha hb
    have := h a ha b hb
    simpa using this
theorem bool_beq (b : Bool) : (b == b) = true := by cases b <;> rfl
theorem wsu (n : Nat) (h : n ≤ 10000) : wrap64 ((n : Int) + 1) = ((n + 1 : Nat) : Int) := by
  rw [w64 _ (by omega) (by omega)]
  omega
def YY (l : List Int) (i : Nat) : List Int := (l.take i).map fun x => Go.bits .and .i64 x 7
theorem YY_succ (l : List Int) (i : Nat) (h : i < l.length) : YY l (i + 1) = YY l i ++ [Go.bits .and .i64 l[i] 7] := by
  unfold YY
  rw [List.take_succ_eq_append_getElem h, List.map_append]
  rfl
theorem YY_len (l : List Int) (i : Nat) (h : i ≤ l.length) : (YY l i).length = i := by simp [YY]; omega
theorem YY_small (l : List Int) (i : Nat) : ∀ j : Nat, (0 : Int) ≤ (YY l i)[j]?.getD 0 ∧ (YY l i)[j]?.getD 0 ≤ 7 := fun j => by
  unfold YY
  rw [List.getElem?_map]
  cases (List.take i l)[j]? with
  | none => simp
  | some x =>
    show 0 ≤ Go.bits .and .i64 x 7 ∧ Go.bits .and .i64 x 7 ≤ 7
    rw [i64_and7]
    omega
theorem even0 (A : Option Addr) (c : Nat) (w : World) : Calls Try.prog 61 #[.slice A 0 c] w fun e w' => e = .returned (.bool true) ∧ Below w.heap.size w w' := by
  go_enter Try.func61, Try.ntmps61
  go_wp2_with fail
  go_ret
  exact ⟨rfl, by first | exact below_drewN (Below.refl _ _) _ | exact Below.refl _ _⟩
set_option maxHeartbeats 8000000 in
set_option maxRecDepth 100000 in
theorem core (A : Option Addr) (n c0 : Nat) (l : List Int) (room : Int) (W : World) (hmn : (if (12 : Int) < (n : Int) then 12 else (n : Int)) = (l.length : Int)) (hln : l.length ≤ n) (hnc : n ≤ c0) (h12 : l.length ≤ 12) (hn : n ≤ 9223372036854775807)
    (cell : XRow W A l) :
    Calls Try.prog 14 #[.slice A n c0, .int .i64 room] W fun e W' => e = .returned (.bool true) ∧ Below W.heap.size W W' := by
  have XC := Aside0.mk cell
  have ORD := Aside0.mk (fun w h => order_at A l c0 room w h12 h)
  have HL := Aside0.mk h12
  clear cell h12
  go_enter Try.func14, Try.ntmps14
  go_wp2_with fail
  refine (ORD.out _ XC.out).mono ?_
  rintro e w1 ⟨⟨v, Q, rfl, hO, hp, hs⟩, hb⟩
  obtain ⟨OA, oc, rfl, hor⟩ := ordR_row hO
  have XC1 := Aside0.mk (XC.out.next hb)
  have OR1 := Aside0.mk hor
  have HB1 := Aside0.mk hb
  have HP := Aside0.mk hp
  have HS := Aside0.mk hs
  have HQL := Aside0.mk (show Q.length ≤ 12 by rw [hp.length_eq]; have := may_le l room l.length; have := HL.out; omega)
  have HQM := Aside0.mk (show ∀ x ∈ Q, x < l.length ∧ l[x]?.getD 0 < room from fun x hx => may_mem l room _ x (hp.subset hx))
  clear hO hor hb hp hs XC ORD hmn
  go_wp2_with fail
  go_loopg [7, 8] l.length (fun gg v7 v8 wx => ∃ i : Nat, gg + i = l.length ∧ v8 = .int .i64 (i : Int) ∧ v7 = .int .i64 ((may l room i).length : Int) ∧ Below w1.heap.size w1 wx)
  case atStart => exact ⟨0, by omega, rfl, rfl, Below.refl _ _⟩
  case round =>
    obtain ⟨i, hi, rfl, rfl, hM⟩ := hrel
    have HM := Aside0.mk hM
    have HI := Aside0.mk hi
    clear hM hi
    by_cases hlt : i < l.length
    · have d1 : decide ((i : Int) < (l.length : Int)) = true := decide_eq_true (by omega)
      obtain ⟨ad, rfl, hc⟩ := (XC1.out.next HM.out) i hlt
      have e0 : l[i]?.getD 0 = l[i] := by simp [hlt]
      have MS := may_succ l room i
      rw [e0] at MS
      have ML := may_le l room i
      obtain ⟨x, hx⟩ : ∃ x, l[i] = x := ⟨_, rfl⟩
      rw [hx] at hc MS
      obtain ⟨q, hq⟩ : ∃ q, (may l room i).length = q := ⟨_, rfl⟩
      rw [hq] at ML ⊢
      clear e0 hx
      by_cases hp : x < room
      · have d2 : decide (x < room) = true := decide_eq_true hp
        have HE := Aside0.mk (show (may l room (i + 1)).length = q + 1 by rw [MS, if_pos hp]; simp [hq])
        have HQ := Aside0.mk (show q ≤ 100 by have := HL.out; omega)
        clear MS ML hq
        go_wp2_with fail
        go_roundg (l.length - (i + 1))
        case measure => have := HI.out; omega
        case rel => exact ⟨i + 1, by have := HI.out; omega, by first | rfl | rw [wsu _ (by have := HL.out; omega)], by first | (rw [HE.out, wsu _ (by have := HQ.out; omega)]; done) | (rw [HE.out]; rfl), HM.out⟩
      · have d2 : decide (x < room) = false := decide_eq_false hp
        have HE := Aside0.mk (show (may l room (i + 1)).length = q by rw [MS, if_neg hp]; simp [hq])
        clear MS ML hq
        go_wp2_with fail
        go_roundg (l.length - (i + 1))
        case measure => have := HI.out; omega
        case rel => exact ⟨i + 1, by have := HI.out; omega, by first | rfl | rw [wsu _ (by have := HL.out; omega)], by rw [HE.out], HM.out⟩
    · have d1 : decide ((i : Int) < (l.length : Int)) = false := decide_eq_false (by omega)
      obtain rfl : i = l.length := by have := HI.out; omega
      rw [← HP.out.length_eq]
      have XC2 := Aside0.mk (XC1.out.next HM.out)
      have OR2 := Aside0.mk (OR1.out.next HM.out)
      have HB2 := Aside0.mk (HB1.out.trans (HM.out.mono HB1.out.size))
      obtain ⟨w2, hw2⟩ : ∃ w2, wr = w2 := ⟨_, rfl⟩
      rw [hw2] at XC2 OR2 HB2 ⊢
      clear HI HM XC1 OR1 HB1 hw2 d1 hlt
      go_wp2_with fail
      go_loopg [9] Q.length (fun gg v9 wx => ∃ i : Nat, gg + i = Q.length ∧ v9 = .int .i64 (i : Int) ∧ Below w2.heap.size w2 wx)
      case atStart => exact ⟨0, by omega, rfl, Below.refl _ _⟩
      case round =>
        obtain ⟨i, hi, rfl, hM⟩ := hrel
        have HM := Aside0.mk hM
        have HI := Aside0.mk hi
        clear hM hi
        by_cases hlt : i < Q.length
        · have d1 : decide ((i : Int) < (Q.length : Int)) = true := decide_eq_true (by omega)
          obtain ⟨od, rfl, hoc⟩ := (OR2.out.next HM.out) i hlt
          obtain ⟨a, ha⟩ : ∃ a, Q[i] = a := ⟨_, rfl⟩
          have hqa := HQM.out a (by rw [← ha]; exact List.getElem_mem hlt)
          obtain ⟨ad, rfl, hxc⟩ := (XC2.out.next HM.out) a hqa.1
          have e0 : l[a]?.getD 0 = l[a] := by simp [hqa.1]
          obtain ⟨x, hx⟩ : ∃ x, l[a] = x := ⟨_, rfl⟩
          have e1 : l[a]?.getD 0 = x := by rw [e0, hx]
          rw [ha] at hoc
          rw [hx] at hxc
          have hxr : x < room := by rw [← e1]; exact hqa.2
          have hal := hqa.1
          have d2 : decide ((a : Int) < 0) = false := decide_eq_false (by omega)
          have d3 : decide ((l.length : Int) ≤ (a : Int)) = false := decide_eq_false (by omega)
          have d4 : decide (room ≤ x) = false := decide_eq_false (by omega)
          have d5 : ¬ l.length ≤ a := by omega
          have HXA := Aside0.mk (And.intro ha e1)
          clear hqa e0 hx ha e1
          cases i with
          | zero =>
            have hoc0 : wr.cell? od = some (.int .i64 (a : Int)) := by simpa [Addr.add] using hoc
            go_wp2_with fail
            go_quiet (fail)
            go_wp2_with fail
            go_roundg (Q.length - 1)
            case measure => have := HI.out; omega
            case rel => exact ⟨1, by have := HI.out; omega, by rfl, by first | exact HM.out | exact below_drewN HM.out _⟩
          | succ j =>
            have hoc0 : wr.cell? ⟨od.block, od.off + (j + 1), none⟩ = some (.int .i64 (a : Int)) := by simpa [Addr.add] using hoc
            have hjl : j < Q.length := by omega
            obtain ⟨od2, hod2, hoc2⟩ := (OR2.out.next HM.out) j hjl
            injection hod2 with hod2
            subst hod2
            obtain ⟨b, hb⟩ : ∃ b, Q[j] = b := ⟨_, rfl⟩
            have hqb := HQM.out b (by rw [← hb]; exact List.getElem_mem hjl)
            obtain ⟨ad2, had2, hxc2⟩ := (XC2.out.next HM.out) b hqb.1
            injection had2 with had2
            subst had2
            have hRR : RR (fun n => l[n]?.getD 0) b a := by
              have := List.pairwise_iff_getElem.1 HS.out j (j + 1) hjl hlt (by omega)
              rw [hb, HXA.out.1] at this
              exact this
            obtain ⟨y, hy⟩ : ∃ y, l[b] = y := ⟨_, rfl⟩
            have e2 : l[b]?.getD 0 = y := by have := hqb.1; simp [this, hy]
            rw [hb] at hoc2
            rw [hy] at hxc2
            unfold RR at hRR
            simp only [e2, HXA.out.2] at hRR
            have hbl := hqb.1
            have k1 : IntKind.i64.wrap (((j + 1 : Nat) : Int) - 1) = (j : Int) := by have := HQL.out; rw [IntKind.wrap_i64]; omega
            have k2 : IntKind.i64.wrap (j : Int) = (j : Int) := by have := HQL.out; rw [IntKind.wrap_i64]; omega
            have d6 : decide ((0 : Int) < ((j + 1 : Nat) : Int)) = true := decide_eq_true (by omega)
            have hz1 : (0 : Int) ≤ (j : Int) + 1 := by omega
            have hz2 : (j : Int) + 1 < (Q.length : Int) := by omega
            clear hqb hy e2 hb
            rcases hRR with hR | ⟨rfl, hR⟩
            · have d7 : decide (x < y) = false := decide_eq_false (by omega)
              have d8 : (x == y) = false := beq_eq_false_iff_ne.2 (by omega)
              clear hR
              go_wp2_with fail
              go_quiet (fail)
              go_wp2_with fail
              go_roundg (Q.length - (j + 2))
              case measure => have := HI.out; omega
              case rel => exact ⟨j + 2, by have := HI.out; omega, by have := HQL.out; first | rfl | (congr 1; first | omega | (rw [w64 _ (by omega) (by omega)]; omega)), by first | exact HM.out | exact below_drewN HM.out _⟩
            · have d7 : decide ((a : Int) ≤ (b : Int)) = false := decide_eq_false (by omega)
              have d8 : decide (a ≤ b) = false := decide_eq_false (by omega)
              have d9 : ¬ a ≤ b := by omega
              clear hR
              go_wp2_with fail
              go_quiet (fail)
              go_wp2_with fail
              go_roundg (Q.length - (j + 2))
              case measure => have := HI.out; omega
              case rel => exact ⟨j + 2, by have := HI.out; omega, by have := HQL.out; first | rfl | (congr 1; first | omega | (rw [w64 _ (by omega) (by omega)]; omega)), by first | exact HM.out | exact below_drewN HM.out _⟩
        · have d1 : decide ((i : Int) < (Q.length : Int)) = false := decide_eq_false (by omega)
          have XC3 := Aside0.mk (XC2.out.next HM.out)
          have HB3 := Aside0.mk (HB2.out.trans (HM.out.mono HB2.out.size))
          obtain ⟨w3, hw3⟩ : ∃ w3, wr = w3 := ⟨_, rfl⟩
          rw [hw3] at XC3 HB3 ⊢
          clear HI HM XC2 OR2 HB2 hw3
          go_wp2_with fail
          have hor := Aside0.mk (own_lit w3 w3.heap.size 3 .i64 [] (Nat.le_refl _) (by simp))
          have hb0 := Aside0.mk ((Below.refl w3.heap.size w3).alloc (Nat.le_refl _) (.cells #[] 3))
          go_loopg [10, 12] l.length (fun gg v10 v12 wx => ∃ i : Nat, gg + i = l.length ∧ v12 = .int .i64 (i : Int) ∧ wx.ownsRow w3.heap.size 3 1 v10 (YY l i).length (nums .i64 (YY l i)) ∧ Below w3.heap.size w3 wx)
          case atStart => exact ⟨0, by omega, rfl, hor.out, hb0.out⟩
          case round =>
            clear hor hb0
            obtain ⟨i, hi, rfl, hO, hB⟩ := hrel
            have HO := Aside0.mk hO
            have HB := Aside0.mk hB
            have HI := Aside0.mk hi
            clear hO hB hi
            by_cases hlt : i < l.length
            · have d1 : decide ((i : Int) < (l.length : Int)) = true := decide_eq_true (by omega)
              obtain ⟨ad, rfl, hc⟩ := (XC3.out.next HB.out) i hlt
              have e0 : l[i]?.getD 0 = l[i] := by simp [hlt]
              have MS := YY_succ l i hlt
              obtain ⟨x, hx⟩ : ∃ x, l[i] = x := ⟨_, rfl⟩
              rw [hx] at hc MS
              obtain ⟨y, hy⟩ : ∃ y, Go.bits .and .i64 x 7 = y := ⟨_, rfl⟩
              rw [hy] at MS
              have HE := Aside0.mk MS.symm
              have HL2 := Aside0.mk (show (YY l i).length ≤ 12 by have := YY_len l i (by omega); have := HL.out; omega)
              have HZ := Aside0.mk HB.out.size
              clear e0 hx MS
              go_wp2_with (first | ((with_reducible refine gate_builtin (b := .append) (xs := #[.tmp 125, .tmp 131]) rfl ?_); at_builtin; refine print_append_num (w0 := w3) w3.heap.size rfl (.tmp 125) (.tmp 131) 25 3 .i64 8 rfl Try.underlying25 info3 (by decide) u10 (YY l i) y rfl rfl HO.out HB.out HZ.out (by have := HL2.out; omega) ?_; intro v1 w4 ho hb hg hat; clear hg hat; rw [HE.out] at ho; have HO2 := Aside0.mk ho; have HB2 := Aside0.mk hb; clear ho hb))
              go_roundg (l.length - (i + 1))
              case measure => have := HI.out; omega
              case rel => exact ⟨i + 1, by have := HI.out; omega, by first | rfl | rw [wsu _ (by have := HL.out; omega)], HO2.out, HB2.out⟩
            · have d1 : decide ((i : Int) < (l.length : Int)) = false := decide_eq_false (by omega)
              obtain rfl : i = l.length := by have := HI.out; omega
              obtain ⟨YA, yc, rfl, hrd⟩ := own_reads HO.out
              have HYL := Aside0.mk (YY_len l l.length (Nat.le_refl _))
              have HYB := Aside0.mk (YY_small l l.length)
              obtain ⟨Y, hY⟩ : ∃ Y, YY l l.length = Y := ⟨_, rfl⟩
              rw [hY] at HYL HYB hrd
              rw [hY]
              obtain ⟨w4, hw4⟩ : ∃ w4, wr = w4 := ⟨_, rfl⟩
              rw [hw4] at hrd
              have YR := Aside0.mk (show XRow w4 YA Y from fun i hi => by
                obtain ⟨ad, h1, h2⟩ := hrd.2.2 (by omega)
                exact ⟨ad, h1, by rw [h2 i hi]; simp [List.getD_eq_getElem?_getD, hi]⟩)
              have HB4 := Aside0.mk (show Below W.heap.size W w4 from hw4 ▸ HB3.out.trans (HB.out.mono HB3.out.size))
              rw [hw4]
              clear HI HO HB XC3 HB3 hrd hw4 hlt d1 hY
              go_wp2_with fail
              go_loopg [11, 13, 14] Y.length (fun gg v11 v13 v14 wx => ∃ i : Nat, gg + i = Y.length ∧ v13 = .int .i64 (i : Int) ∧ v11 = .bool (ev Y i 0) ∧ Below w4.heap.size w4 wx)
              case atStart => exact ⟨0, by omega, rfl, rfl, Below.refl _ _⟩
              case round =>
                obtain ⟨i, hi, rfl, rfl, hM⟩ := hrel
                have HM := Aside0.mk hM
                have HI := Aside0.mk hi
                clear hM hi
                by_cases hlt : i < Y.length
                · have d1 : decide ((i : Int) < (Y.length : Int)) = true := decide_eq_true (by omega)
                  have HLT := Aside0.mk hlt
                  go_wp2_with fail
                  go_loopg [11, 14] Y.length (fun gg v11 v14 wx => ∃ k : Nat, gg + k = Y.length ∧ v14 = .int .i64 (k : Int) ∧ v11 = .bool (ev Y i k) ∧ Below w4.heap.size w4 wx)
                  case atStart => exact ⟨0, by omega, rfl, rfl, HM.out⟩
                  case round =>
                    clear HM d1
                    obtain ⟨k, hk, rfl, rfl, hM⟩ := hrel
                    have HM := Aside0.mk hM
                    have HKK := Aside0.mk hk
                    clear hM hk
                    by_cases hkl : k < Y.length
                    · have d2 : decide ((k : Int) < (Y.length : Int)) = true := decide_eq_true (by omega)
                      obtain ⟨yd, rfl, hc1⟩ := (YR.out.next HM.out) i hlt
                      obtain ⟨yd2, h2, hc2⟩ := (YR.out.next HM.out) k hkl
                      injection h2 with h2
                      subst h2
                      have HES := Aside0.mk (ev_step Y i k)
                      have b1 := HYB.out i
                      have b2 := HYB.out k
                      have e1 : Y[i]?.getD 0 = Y[i] := by simp [hlt]
                      have e2 : Y[k]?.getD 0 = Y[k] := by simp [hkl]
                      rw [e1, e2] at HES
                      rw [e1] at b1
                      rw [e2] at b2
                      obtain ⟨x, hx⟩ : ∃ x, Y[i] = x := ⟨_, rfl⟩
                      obtain ⟨y, hy⟩ : ∃ y, Y[k] = y := ⟨_, rfl⟩
                      rw [hx, hy] at HES
                      rw [hx] at hc1 b1
                      rw [hy] at hc2 b2
                      obtain ⟨E, hE⟩ : ∃ E, ev Y i k = E := ⟨_, rfl⟩
                      obtain ⟨E2, hE2⟩ : ∃ E, ev Y i (k + 1) = E := ⟨_, rfl⟩
                      rw [hE, hE2] at HES
                      rw [hE]
                      have HE2 := Aside0.mk hE2
                      obtain ⟨dd, hdd⟩ : ∃ dd, x - y = dd := ⟨_, rfl⟩
                      have kw : IntKind.i64.wrap (x - y) = dd := by rw [hdd, IntKind.wrap_i64]; omega
                      rw [hdd] at HES
                      obtain ⟨tb, htb⟩ : ∃ tb, decide (dd ≤ 1) = tb := ⟨_, rfl⟩
                      rw [htb] at HES
                      clear e1 e2 hx hy hE hE2 hdd b1 b2
                      cases E
                      · obtain rfl : E2 = false := by rw [HES.out]; rfl
                        clear htb kw HES
                        go_wp2_with fail
                        go_quiet (fail)
                        go_wp2_with fail
                        go_roundg (Y.length - (k + 1))
                        case measure => have := HKK.out; omega
                        case rel => exact ⟨k + 1, by have := HKK.out; omega, by first | rfl | rw [wsu _ (by have := HYL.out; have := HL.out; omega)], by rw [HE2.out], by first | exact HM.out | exact below_drewN HM.out _⟩
                      · obtain rfl : E2 = tb := by rw [HES.out]; rfl
                        clear HES
                        go_wp2_with fail
                        go_quiet (fail)
                        go_wp2_with fail
                        go_roundg (Y.length - (k + 1))
                        case measure => have := HKK.out; omega
                        case rel => exact ⟨k + 1, by have := HKK.out; omega, by first | rfl | rw [wsu _ (by have := HYL.out; have := HL.out; omega)], by rw [HE2.out], by first | exact HM.out | exact below_drewN HM.out _⟩
                    · have d2 : decide ((k : Int) < (Y.length : Int)) = false := decide_eq_false (by omega)
                      obtain rfl : k = Y.length := by have := HKK.out; omega
                      rw [ev_row]
                      obtain ⟨E, hE⟩ : ∃ E, ev Y (i + 1) 0 = E := ⟨_, rfl⟩
                      rw [hE]
                      have HE2 := Aside0.mk hE
                      clear hE
                      go_wp2_with fail
                      go_roundg (Y.length - (i + 1))
                      case measure => have := HI.out; have := HLT.out; omega
                      case rel => exact ⟨i + 1, by have := HI.out; have := HLT.out; omega, by first | rfl | rw [wsu _ (by have := HYL.out; have := HL.out; omega)], by rw [HE2.out], HM.out⟩
                · have d1 : decide ((i : Int) < (Y.length : Int)) = false := decide_eq_false (by omega)
                  obtain rfl : i = Y.length := by have := HI.out; omega
                  have YR5 := Aside0.mk (YR.out.next HM.out)
                  have HB5 := Aside0.mk (HB4.out.trans (HM.out.mono HB4.out.size))
                  have HEV := Aside0.mk (ev_end Y)
                  obtain ⟨E, hE⟩ : ∃ E, ev Y Y.length 0 = E := ⟨_, rfl⟩
                  rw [hE] at HEV ⊢
                  have kq : ((Q.length : Int) == (Q.length : Int)) = true := by simp
                  clear HM HI YR HB4
                  go_wp2_with fail
                  refine (awake_calls _).mono ?_
                  rintro e w5 ⟨rfl, hb⟩
                  have YR6 := Aside0.mk (YR5.out.next hb)
                  have HB6 := Aside0.mk (HB5.out.trans (hb.mono HB5.out.size))
                  clear hb YR5 HB5
                  go_wp2_with fail
                  have EV := Aside0.mk (show Calls Try.prog 61 #[.slice YA Y.length yc] w5 fun e w' => e = .returned (.bool E) ∧ Below w5.heap.size w5 w' from by
                    rcases Nat.eq_zero_or_pos Y.length with h0 | h0
                    · have hn : Y = [] := List.eq_nil_of_length_eq_zero h0
                      subst hn
                      have : E = true := by rw [← hE]; rfl
                      rw [this]
                      exact even0 YA yc w5
                    · obtain ⟨yd, h1, h2⟩ := YR6.out 0 h0
                      subst h1
                      refine (even_calls (some yd) yc Y w5 (C_of (by have := HYL.out; have := HL.out; omega) (fun i hi => by
                        obtain ⟨ad, h3, h4⟩ := YR6.out i hi
                        injection h3 with h3
                        subst h3
                        rw [h4]; simp [hi])) h0 (fun i hi => by have := HYB.out i; omega)).mono ?_
                      rintro e w' ⟨rfl, n, rfl⟩
                      exact ⟨by rw [HEV.out h0], below_drewN (Below.refl _ _) n⟩)
                  refine EV.out.mono ?_
                  rintro e w6 ⟨rfl, hb⟩
                  have HB7 := Aside0.mk (HB6.out.trans (hb.mono HB6.out.size))
                  clear hb EV HEV hE YR6 HB6
                  have kb := bool_beq E
                  go_wp2_with fail
                  go_ret
                  exact ⟨by first | rfl | (cases E <;> rfl), HB7.out⟩
theorem walk (A0 : Option Addr) (c0 : Nat) (l0 : List (Pts [.int .i64])) (a1 : Int) (W : World) (ro0 : RowsOf W [.int .i64] A0 l0) (w0 : ∀ x ∈ l0, wfs [.int .i64] x) (lc0 : l0.length ≤ c0) (cm0 : c0 ≤ maxLen) (nn0 : A0 = none → c0 = 0) (w1 : (Lit.int .i64 a1).wf = true) :
    Calls Try.prog 14 #[.slice A0 l0.length c0, .int .i64 a1] W fun e W' => e = .returned (.bool true) ∧ Below W.heap.size W W' := by
  have hl0 : l0.length ≤ 9223372036854775807 := by unfold maxLen at cm0; omega
  obtain ⟨l, hl⟩ : ∃ l : List Int, l = (l0.take 12).map (fun x => x.1) := ⟨_, rfl⟩
  have hlen : l.length = min 12 l0.length := by rw [hl]; simp
  refine core A0 l0.length c0 l a1 W (by split <;> omega) (by omega) lc0 (by omega) hl0 (fun i hi => ?_)
  have hi' : i < l0.length := by omega
  obtain ⟨b, hb, h⟩ := ro0 i hi'
  refine ⟨b, hb, ?_⟩
  have := h 0 (by decide)
  simp only [List.length_cons, List.length_nil, Nat.add_zero] at this
  rw [show i * (0 + 1) = i by omega] at this
  rw [this]
  subst hl
  simp [Prod.fst, List.getElem_map, List.getElem_take]
  rfl
end Go.Proofs.Ytbbaonaahokidaa.walkRouteOrder
