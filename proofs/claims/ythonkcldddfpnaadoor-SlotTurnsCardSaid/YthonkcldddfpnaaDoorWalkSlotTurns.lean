/- Turn behind turn a slot is taken and given back, until it has none more: the walk of SlotTurns. -/
import Derived.Test.YthonkcldddfpnaaDoorSlot3
import Derived.Deep.CutRange
import Derived.Deep.LoopGhost
namespace Go.Proofs.YthonkcldddfpnaaDoor.walkSlotTurns
open Go.RowKit Go.Proofs.YthonkcldddfpnaaDoor.Open Go.Proofs.YthonkcldddfpnaaDoor.PSlotWords Go.Proofs.YthonkcldddfpnaaDoorW.PrintWords Go.Proofs.YthonkcldddfpnaaDoorW.PrintLast Go.Proofs.YthonkcldddfpnaaDoorW.PrintMore Go.Proofs.YthonkcldddfpnaaDoor.Aid Go.Proofs.YthonkcldddfpnaaDoor.Quiet Go.Proofs.YthonkcldddfpnaaDoor.SlotF Go.Proofs.YthonkcldddfpnaaDoor.Slot Go.Proofs.YthonkcldddfpnaaDoor.Slot3
set_option linter.unusedVariables false
attribute [local go_sem] max2_int min2_int max_two min_two

set_option maxHeartbeats 4000000 in
set_option maxRecDepth 100000 in
theorem core (a0 : Int) (m : Nat) (A : Option Addr) (l : List (Pts [.bool])) (c : Nat) (W : World) (gl : LaidSlot.Cells W) (ha : Go.bits .and .i64 a0 15 = (m : Int) - 1) (hm : 1 ≤ m ∧ m ≤ 16) (hl : l.length ≤ 9223372036854775807) (ro : RowsOf W [.bool] A l) :
    Calls Tryd.prog 7 #[.int .i64 a0, .slice A l.length c] W fun e W' => e = .returned (.bool true) ∧ Below W.heap.size W W' := by
  have hz := Cells.size gl
  have GL := Aside0.mk gl
  have HR := Aside0.mk ro
  have HB := Aside0.mk (Below.refl W.heap.size W)
  have HM := Aside0.mk (show mn (m : Int) 16777215 = m by unfold mn; rw [if_neg (by omega)])
  have hm1 : (m : Int) - 1 + 1 = m := by omega
  clear gl ro
  go_enter Tryd.func7, Tryd.ntmps7
  go_wp2_with fail
  refine (word_calls 0 0 0 0 _ (Cells.below GL.out HB.out hz) (by kernel_rfl) (by kernel_rfl) (by omega) (by omega)).mono ?_
  rintro e wn ⟨rfl, hb⟩
  have hx := wordN_lt 0 0
  have hxs : stN (wordN 0 0) = 0 := wordN_st 0 0
  have hxg : genN (wordN 0 0) = 0 := wordN_gen 0 0
  generalize wordN 0 0 = x at hx hxs hxg ⊢
  have HX := Aside0.mk (And.intro hx (And.intro hxs hxg))
  have HB0 := Aside0.mk (HB.out.trans (hb.mono HB.out.size))
  clear hx hxs hxg HB hb
  go_wp2_with fail
  go_loopg [6, 7] 20 (fun g u i wr => ∃ (k x : Nat), g + k = 20 ∧ i = .int .i64 k ∧ u = .int .u64 (x : Int) ∧ x < 2 ^ 64 ∧ ((k < m ∧ genN x = k ∧ stN x = 0) ∨ (m ≤ k ∧ stN x = 3)) ∧ Below W.heap.size W wr)
  case atStart => exact ⟨0, x, rfl, rfl, rfl, HX.out.1, Or.inl ⟨by omega, HX.out.2.2, HX.out.2.1⟩, HB0.out⟩
  case round =>
    obtain ⟨i, x, hi, rfl, rfl, hx, hst, hB⟩ := hrel
    have HB := Aside0.mk hB
    have HX := Aside0.mk hx
    have HI := Aside0.mk hi
    have HST := Aside0.mk hst
    clear hB HB0 hx hst hi
    by_cases h20 : i < 20
    · have d20 : decide ((i : Int) < 20) = true := decide_eq_true (by omega)
      obtain ⟨q, hq⟩ : ∃ q : Bool, (i < l.length ∧ ∃ a, A = some a ∧ W.cell? (a.add i) = some (.bool q)) ∨ (¬ i < l.length ∧ q = false) := by
        by_cases hlt : i < l.length
        · obtain ⟨a, ha, hrow⟩ := HR.out i hlt
          have ca := hrow 0 (by decide)
          exact ⟨(l[i]).1, Or.inl ⟨hlt, a, ha, by simpa [vals] using ca⟩⟩
        · exact ⟨false, Or.inr ⟨hlt, rfl⟩⟩
      have HQ := Aside0.mk hq
      clear hq
      go_upto_region 6 with fail
      go_cut [8] from 18 to 115 (fun s w => s = .bool q ∧ wr = w)
      case first =>
        rcases HQ.out with ⟨hlt, a, rfl, ca⟩ | ⟨hlt, rfl⟩
        · have dl : decide ((i : Int) < (l.length : Int)) = true := decide_eq_true (by omega)
          have cw := (HB.out.cell (p := a.add i) (World.block_lt_of_cell? _ _ ca)).trans ca
          clear ca
          go_wp2_with fail
          go_meet
          exact ⟨rfl, rfl⟩
        · have dl : decide ((i : Int) < (l.length : Int)) = false := decide_eq_false (by omega)
          go_wp2_with fail
          go_meet
          exact ⟨rfl, rfl⟩
      case rest =>
        obtain ⟨rfl, rfl⟩ := hcut
        clear HQ
        rcases HST.out with ⟨hk, hg, hs⟩ | ⟨hk, hs⟩
        · obtain ⟨y, hy, hyg, hys, OP0⟩ := open_some q x HX.out (m : Int) (m : Int) HM.out hs (by omega)
          have hys' : stN y = 1 ∨ stN y = 2 := by rw [hys]; cases q <;> simp
          obtain ⟨v, hv, hvg, hvs, CL0⟩ := close_some y hy (m : Int) (m : Int) HM.out hys'
          have OP := Aside0.mk OP0
          have CL := Aside0.mk CL0
          have dk : decide ((i : Int) < (m : Int)) = true := decide_eq_true (by omega)
          have hl1 : liveB y ((i : Int) + 1) = true := decide_eq_true ⟨by omega, hys'⟩
          have hl0 : liveB y (i : Int) = false := decide_eq_false (by omega)
          have hlv : liveB v ((i : Int) + 1) = false := decide_eq_false (by rw [hvs]; split <;> omega)
          have eg : (genN y : Int) = (i : Int) + 1 := by omega
          have ev : (genN v : Int) = (i : Int) + 1 := by omega
          have HV := Aside0.mk (And.intro hv (And.intro hvg hvs))
          have HY := Aside0.mk (And.intro hy (And.intro hyg hys'))
          have hv0 : stN v = 0 ∨ stN v = 3 := by rw [hvs]; split <;> simp
          have HV0 := Aside0.mk hv0
          have HHG := Aside0.mk hg
          clear OP0 CL0 hv hvg hvs hy hyg hv0 hg hs
          cases q
          · have es : (stN y : Int) = 1 := by rw [hys]; rfl
            clear hys hys'
            go_wp2_with (first | (go_at_call 28; (first | (with_reducible refine (OP.out _ (Cells.below GL.out HB.out hz)).mono ?_) | (with_reducible refine (open_not y HY.out.1 (m : Int) 0 _ (Cells.below GL.out HB.out hz) _ (by have := HY.out.2.2; omega)).mono ?_)); rintro e wn ⟨rfl, hb⟩; replace HB := Aside0.mk (HB.out.trans (hb.mono HB.out.size)); clear hb) | (go_at_call 25; (first | (with_reducible refine (gen_calls y HY.out.1 _ (Cells.below GL.out HB.out hz)).mono ?_) | (with_reducible refine (gen_calls v HV.out.1 _ (Cells.below GL.out HB.out hz)).mono ?_)); rintro e wn ⟨rfl, hb⟩; replace HB := Aside0.mk (HB.out.trans (hb.mono HB.out.size)); clear hb; first | rw [eg] | rw [ev]) | (go_at_call 26; (with_reducible refine (st_calls y HY.out.1 _ (Cells.below GL.out HB.out hz)).mono ?_); rintro e wn ⟨rfl, hb⟩; replace HB := Aside0.mk (HB.out.trans (hb.mono HB.out.size)); clear hb; rw [es]) | (go_at_call 27; (first | (with_reducible refine (live_calls y HY.out.1 _ _ (Cells.below GL.out HB.out hz)).mono ?_) | (with_reducible refine (live_calls v HV.out.1 _ _ (Cells.below GL.out HB.out hz)).mono ?_)); rintro e wn ⟨rfl, hb⟩; replace HB := Aside0.mk (HB.out.trans (hb.mono HB.out.size)); clear hb; first | rw [hl1] | rw [hl0] | rw [hlv]) | (go_at_call 29; (first | (with_reducible refine (CL.out _ (Cells.below GL.out HB.out hz)).mono ?_) | (with_reducible refine (close_not v HV.out.1 (m : Int) 0 _ (Cells.below GL.out HB.out hz) (by have := HV0.out; omega) (by have := HV0.out; omega)).mono ?_)); rintro e wn ⟨rfl, hb⟩; replace HB := Aside0.mk (HB.out.trans (hb.mono HB.out.size)); clear hb))
            go_roundg (20 - (i + 1))
            case measure => have := HI.out; omega
            case rel =>
              refine ⟨i + 1, v, by omega, by go_num, rfl, HV.out.1, ?_, HB.out⟩
              have h1 := HV.out.2.1
              have h2 := HV.out.2.2
              have h3 := HY.out.2.1
              have h4 := HHG.out
              by_cases h : i + 1 < m
              · rw [if_pos (by omega)] at h2
                exact Or.inl ⟨h, by omega, h2⟩
              · rw [if_neg (by omega)] at h2
                exact Or.inr ⟨by omega, h2⟩
          · have es : (stN y : Int) = 2 := by rw [hys]; rfl
            clear hys hys'
            go_wp2_with (first | (go_at_call 28; (first | (with_reducible refine (OP.out _ (Cells.below GL.out HB.out hz)).mono ?_) | (with_reducible refine (open_not y HY.out.1 (m : Int) 0 _ (Cells.below GL.out HB.out hz) _ (by have := HY.out.2.2; omega)).mono ?_)); rintro e wn ⟨rfl, hb⟩; replace HB := Aside0.mk (HB.out.trans (hb.mono HB.out.size)); clear hb) | (go_at_call 25; (first | (with_reducible refine (gen_calls y HY.out.1 _ (Cells.below GL.out HB.out hz)).mono ?_) | (with_reducible refine (gen_calls v HV.out.1 _ (Cells.below GL.out HB.out hz)).mono ?_)); rintro e wn ⟨rfl, hb⟩; replace HB := Aside0.mk (HB.out.trans (hb.mono HB.out.size)); clear hb; first | rw [eg] | rw [ev]) | (go_at_call 26; (with_reducible refine (st_calls y HY.out.1 _ (Cells.below GL.out HB.out hz)).mono ?_); rintro e wn ⟨rfl, hb⟩; replace HB := Aside0.mk (HB.out.trans (hb.mono HB.out.size)); clear hb; rw [es]) | (go_at_call 27; (first | (with_reducible refine (live_calls y HY.out.1 _ _ (Cells.below GL.out HB.out hz)).mono ?_) | (with_reducible refine (live_calls v HV.out.1 _ _ (Cells.below GL.out HB.out hz)).mono ?_)); rintro e wn ⟨rfl, hb⟩; replace HB := Aside0.mk (HB.out.trans (hb.mono HB.out.size)); clear hb; first | rw [hl1] | rw [hl0] | rw [hlv]) | (go_at_call 29; (first | (with_reducible refine (CL.out _ (Cells.below GL.out HB.out hz)).mono ?_) | (with_reducible refine (close_not v HV.out.1 (m : Int) 0 _ (Cells.below GL.out HB.out hz) (by have := HV0.out; omega) (by have := HV0.out; omega)).mono ?_)); rintro e wn ⟨rfl, hb⟩; replace HB := Aside0.mk (HB.out.trans (hb.mono HB.out.size)); clear hb))
            go_roundg (20 - (i + 1))
            case measure => have := HI.out; omega
            case rel =>
              refine ⟨i + 1, v, by omega, by go_num, rfl, HV.out.1, ?_, HB.out⟩
              have h1 := HV.out.2.1
              have h2 := HV.out.2.2
              have h3 := HY.out.2.1
              have h4 := HHG.out
              by_cases h : i + 1 < m
              · rw [if_pos (by omega)] at h2
                exact Or.inl ⟨h, by omega, h2⟩
              · rw [if_neg (by omega)] at h2
                exact Or.inr ⟨by omega, h2⟩
        · have dk : decide ((i : Int) < (m : Int)) = false := decide_eq_false (by omega)
          have es : (stN x : Int) = 3 := by rw [hs]; rfl
          have HS := Aside0.mk hs
          clear hs
          go_wp2_with (first | (go_at_call 28; (with_reducible refine (open_not x HX.out (m : Int) 0 _ (Cells.below GL.out HB.out hz) _ (by rw [HS.out]; omega)).mono ?_); rintro e wn ⟨rfl, hb⟩; replace HB := Aside0.mk (HB.out.trans (hb.mono HB.out.size)); clear hb) | (go_at_call 26; (with_reducible refine (st_calls x HX.out _ (Cells.below GL.out HB.out hz)).mono ?_); rintro e wn ⟨rfl, hb⟩; replace HB := Aside0.mk (HB.out.trans (hb.mono HB.out.size)); clear hb; rw [es]) | (go_at_call 29; (with_reducible refine (close_not x HX.out (m : Int) 0 _ (Cells.below GL.out HB.out hz) (by rw [HS.out]; omega) (by rw [HS.out]; omega)).mono ?_); rintro e wn ⟨rfl, hb⟩; replace HB := Aside0.mk (HB.out.trans (hb.mono HB.out.size)); clear hb))
          go_roundg (20 - (i + 1))
          case measure => have := HI.out; omega
          case rel => exact ⟨i + 1, x, by omega, by go_num, rfl, HX.out, Or.inr ⟨by omega, HS.out⟩, HB.out⟩
    · obtain rfl : i = 20 := by have := HI.out; omega
      go_wp2_with (first | (go_at_call 24; (with_reducible refine (awake_calls _ (Cells.below GL.out HB.out hz)).mono ?_); rintro e wn ⟨rfl, hb⟩; replace HB := Aside0.mk (HB.out.trans (hb.mono HB.out.size)); clear hb))
      go_ret
      exact ⟨rfl, HB.out⟩

theorem walk (a0 : Int) (A1 : Option Addr) (c1 : Nat) (l1 : List (Pts [.bool])) (W : World) (w0 : (Lit.int .i64 a0).wf = true) (ro1 : RowsOf W [.bool] A1 l1) (w1 : ∀ x ∈ l1, wfs [.bool] x) (lc1 : l1.length ≤ c1) (cm1 : c1 ≤ maxLen) (nn1 : A1 = none → c1 = 0) (gl : LaidSlot.Cells W) :
    Calls Tryd.prog 7 #[.int .i64 a0, .slice A1 l1.length c1] W fun e W' => e = .returned (.bool true) ∧ Below W.heap.size W W' :=
  core a0 ((a0 % 16).toNat + 1) A1 l1 c1 W gl (by rw [i64_and15]; omega) (by omega) (by unfold maxLen at cm1; omega) ro1
end Go.Proofs.YthonkcldddfpnaaDoor.walkSlotTurns
