/- A call's tries: the law's own small trial. -/
import Derived.Test.YtbhnpabanfbalaaAtt2
namespace Go.Proofs.Ytbhnpabanfbalaa.Att
open Go.RowKit Go.Proofs.YtbhnpabanfbalaaW.PrintWords Go.Proofs.YtbhnpabanfbalaaW.PrintLast Go.Proofs.YtbhnpabanfbalaaW.PrintMore Go.Proofs.Ytbhnpabanfbalaa.Aid Go.Proofs.Ytbhnpabanfbalaa.Quiet Go.Proofs.Ytbhnpabanfbalaa.Blk Go.Proofs.Ytbhnpabanfbalaa.State Go.Proofs.Ytbhnpabanfbalaa.Vals
set_option linter.unusedVariables false
set_option linter.unusedSimpArgs false

set_option maxHeartbeats 2000000 in
set_option maxRecDepth 100000 in
theorem next_none (ab : Nat) (w : World) (h : HoldsV 59 w ab (atV 1 0 0 2 3 0 0 false false 0 0 100 0 0 1 1 0 0 0 false)) : Calls Try.prog 23 #[.pointer (some ⟨ab, 0, none⟩)] w fun r w' => r = .returned (.slice none 0 0) ∧ Below w.heap.size w w' := by
  have KN := Aside0.mk (fun w => PAttemptNone.hedge_Next.calls 1 0 0 1 0 0 2 3 0 0 false false 0 0 0 0 100 1099511627776 w (by kernel_rfl))
  have hu24 := Try.underlying24
  have hu29 := Try.underlying29
  have c0 := h.cell 0
  have c1 := h.cell 1
  have c2 := h.cell 2
  have c3 := h.cell 3
  have c4 := h.cell 4
  have c5 := h.cell 5
  have c6 := h.cell 6
  have c7 := h.cell 7
  have c8 := h.cell 8
  have c9 := h.cell 9
  have c10 := h.cell 10
  have c11 := h.cell 11
  have c12 := h.cell 12
  have c13 := h.cell 13
  have c14 := h.cell 14
  have c15 := h.cell 15
  have c16 := h.cell 16
  have c17 := h.cell 17
  have c18 := h.cell 18
  have c19 := h.cell 19
  simp only [atV, List.getElem?_cons_zero, List.getElem?_cons_succ] at c0 c1 c2 c3 c4 c5 c6 c7 c8 c9 c10 c11 c12 c13 c14 c15 c16 c17 c18 c19
  have hal := h.lt
  clear h
  go_enter Try.func23, Try.ntmps23
  go_upto_region 1 with fail
  refine wp_region_below (by kernel_rfl) (by kernel_rfl) ?_
  repeat (go_big_quiet_step ((intro hw; first
    | (with_reducible rfl)
    | (go_at_call 33; with_reducible exact q_below hw (KN.out _))
    | (have e0 := (hw.cell (p := ⟨ab, 0, none⟩) hal).trans c0; have e1 := (hw.cell (p := ⟨ab, 1, none⟩) hal).trans c1; have e2 := (hw.cell (p := ⟨ab, 2, none⟩) hal).trans c2; have e3 := (hw.cell (p := ⟨ab, 3, none⟩) hal).trans c3; have e4 := (hw.cell (p := ⟨ab, 4, none⟩) hal).trans c4; have e5 := (hw.cell (p := ⟨ab, 5, none⟩) hal).trans c5; have e6 := (hw.cell (p := ⟨ab, 6, none⟩) hal).trans c6; have e7 := (hw.cell (p := ⟨ab, 7, none⟩) hal).trans c7; have e8 := (hw.cell (p := ⟨ab, 8, none⟩) hal).trans c8; have e9 := (hw.cell (p := ⟨ab, 9, none⟩) hal).trans c9; have e10 := (hw.cell (p := ⟨ab, 10, none⟩) hal).trans c10; have e11 := (hw.cell (p := ⟨ab, 11, none⟩) hal).trans c11; have e12 := (hw.cell (p := ⟨ab, 12, none⟩) hal).trans c12; have e13 := (hw.cell (p := ⟨ab, 13, none⟩) hal).trans c13; have e14 := (hw.cell (p := ⟨ab, 14, none⟩) hal).trans c14; have e15 := (hw.cell (p := ⟨ab, 15, none⟩) hal).trans c15; have e16 := (hw.cell (p := ⟨ab, 16, none⟩) hal).trans c16; have e17 := (hw.cell (p := ⟨ab, 17, none⟩) hal).trans c17; have e18 := (hw.cell (p := ⟨ab, 18, none⟩) hal).trans c18; have e19 := (hw.cell (p := ⟨ab, 19, none⟩) hal).trans c19; go_simp; first | rfl | exact ⟨rfl, rfl⟩))))
  refine wpQuiet_nil ?_
  intro W2 hb2
  have HB := Aside0.mk hb2
  clear hb2
  go_wp2_with fail
  go_ret
  exact ⟨rfl, by first | exact HB.out | exact below_drewN HB.out _⟩
set_option maxHeartbeats 2000000 in
set_option maxRecDepth 100000 in
theorem begin_first (ab : Nat) (w : World) (h : HoldsV 59 w ab (atV 1 0 0 2 3 0 0 false false 0 0 100 0 0 0 0 0 0 0 false)) : Calls Try.prog 9 #[.pointer (some ⟨ab, 0, none⟩), .int .i64 0] w fun r w' => ∃ sb, r = .returned (.slice (some ⟨sb, 0, none⟩) 1 1) ∧ HoldsV 65 w' sb [.int .i64 1, .int .i64 1, .int .i64 0, .int .i64 0, .int .i64 2, .int .i64 3, .int .u32 0, .int .i64 0, .bool false, .bool false, .int .i64 0, .int .u32 0, .int .i64 0, .int .i64 0, .int .i64 0, .int .i64 0, .int .i64 0] ∧ HoldsV 59 w' ab (atV 1 0 0 2 3 0 0 false false 0 0 100 0 0 1 1 0 0 0 false) ∧ OnlyIn [ab] w w' := by
  have SN := Aside0.mk (send_first ab w h)
  have c14 := h.cell 14
  simp only [atV, List.getElem?_cons_zero, List.getElem?_cons_succ] at c14
  clear h
  go_enter Try.func9, Try.ntmps9
  go_wp2_with fail
  refine SN.out.mono ?_
  rintro e w1 ⟨sb, rfl, h1, h2, h3, h4, h5⟩
  have S1 := Aside0.mk h1
  have H1 := Aside0.mk h4
  have O1 := Aside0.mk h5
  clear h1 h2 h3 h4 h5 SN
  go_wp2_with fail
  refine (next_none ab _ H1.out).mono ?_
  rintro e w2 ⟨rfl, hb⟩
  have S2 := Aside0.mk (S1.out.below' hb)
  have H2 := Aside0.mk (H1.out.below' hb)
  have O2 := Aside0.mk (O1.out.next hb)
  clear hb S1 H1 O1
  go_wp2_with fail
  go_ret
  exact ⟨sb, rfl, S2.out, H2.out, O2.out⟩
theorem begin_again (ab : Nat) (w : World) (h : HoldsV 59 w ab (atV 1 0 0 2 3 0 0 false false 0 0 100 0 0 1 1 0 0 0 false)) : Calls Try.prog 9 #[.pointer (some ⟨ab, 0, none⟩), .int .i64 0] w fun r w' => r = .returned (.slice none 0 0) ∧ Below w.heap.size w w' := by
  have c14 := h.cell 14
  simp only [atV, List.getElem?_cons_zero, List.getElem?_cons_succ] at c14
  clear h
  go_enter Try.func9, Try.ntmps9
  go_wp2_with fail
  go_ret
  exact ⟨rfl, by first | exact below_drewN (Below.refl _ _) _ | exact Below.refl _ _⟩
theorem out_one (ab : Nat) (w : World) (h : HoldsV 59 w ab (atV 1 0 0 2 3 0 0 false false 0 0 100 0 0 1 1 0 0 0 false)) : Calls Try.prog 15 #[.pointer (some ⟨ab, 0, none⟩)] w fun r w' => r = .returned (.int .i64 1) ∧ Below w.heap.size w w' := by
  have H := Aside0.mk h
  clear h
  go_enter Try.func15, Try.ntmps15
  go_wp2_with fail
  go_loopg [3, 4] 16 (fun gg v3 v4 wx => ∃ i : Nat, gg + i = 16 ∧ v4 = .int .i64 (i : Int) ∧ v3 = .int .i64 (if i = 0 then 0 else 1) ∧ Below w.heap.size w wx)
  case atStart => exact ⟨0, rfl, rfl, rfl, by first | exact Below.refl _ _ | exact below_drewN (Below.refl _ _) _⟩
  case round =>
    obtain ⟨i, hi, rfl, rfl, hB⟩ := hrel
    have HB := Aside0.mk hB
    have HI := Aside0.mk hi
    have c15 := (H.out.below' hB).cell 15
    simp only [atV, List.getElem?_cons_zero, List.getElem?_cons_succ] at c15
    clear hB hi
    have hi16 : i ≤ 16 := by have := HI.out; omega
    have h17 : i = 0 ∨ i = 1 ∨ i = 2 ∨ i = 3 ∨ i = 4 ∨ i = 5 ∨ i = 6 ∨ i = 7 ∨ i = 8 ∨ i = 9 ∨ i = 10 ∨ i = 11 ∨ i = 12 ∨ i = 13 ∨ i = 14 ∨ i = 15 ∨ i = 16 := by omega
    clear hi16
    rcases h17 with rfl | rfl | rfl | rfl | rfl | rfl | rfl | rfl | rfl | rfl | rfl | rfl | rfl | rfl | rfl | rfl | rfl
    · go_wp2_with fail
      go_roundg 15
      case measure => have := HI.out; omega
      case rel => exact ⟨1, by have := HI.out; omega, by first | rfl | kernel_rfl, by first | rfl | kernel_rfl, HB.out⟩
    · go_wp2_with fail
      go_roundg 14
      case measure => have := HI.out; omega
      case rel => exact ⟨2, by have := HI.out; omega, by first | rfl | kernel_rfl, by first | rfl | kernel_rfl, HB.out⟩
    · go_wp2_with fail
      go_roundg 13
      case measure => have := HI.out; omega
      case rel => exact ⟨3, by have := HI.out; omega, by first | rfl | kernel_rfl, by first | rfl | kernel_rfl, HB.out⟩
    · go_wp2_with fail
      go_roundg 12
      case measure => have := HI.out; omega
      case rel => exact ⟨4, by have := HI.out; omega, by first | rfl | kernel_rfl, by first | rfl | kernel_rfl, HB.out⟩
    · go_wp2_with fail
      go_roundg 11
      case measure => have := HI.out; omega
      case rel => exact ⟨5, by have := HI.out; omega, by first | rfl | kernel_rfl, by first | rfl | kernel_rfl, HB.out⟩
    · go_wp2_with fail
      go_roundg 10
      case measure => have := HI.out; omega
      case rel => exact ⟨6, by have := HI.out; omega, by first | rfl | kernel_rfl, by first | rfl | kernel_rfl, HB.out⟩
    · go_wp2_with fail
      go_roundg 9
      case measure => have := HI.out; omega
      case rel => exact ⟨7, by have := HI.out; omega, by first | rfl | kernel_rfl, by first | rfl | kernel_rfl, HB.out⟩
    · go_wp2_with fail
      go_roundg 8
      case measure => have := HI.out; omega
      case rel => exact ⟨8, by have := HI.out; omega, by first | rfl | kernel_rfl, by first | rfl | kernel_rfl, HB.out⟩
    · go_wp2_with fail
      go_roundg 7
      case measure => have := HI.out; omega
      case rel => exact ⟨9, by have := HI.out; omega, by first | rfl | kernel_rfl, by first | rfl | kernel_rfl, HB.out⟩
    · go_wp2_with fail
      go_roundg 6
      case measure => have := HI.out; omega
      case rel => exact ⟨10, by have := HI.out; omega, by first | rfl | kernel_rfl, by first | rfl | kernel_rfl, HB.out⟩
    · go_wp2_with fail
      go_roundg 5
      case measure => have := HI.out; omega
      case rel => exact ⟨11, by have := HI.out; omega, by first | rfl | kernel_rfl, by first | rfl | kernel_rfl, HB.out⟩
    · go_wp2_with fail
      go_roundg 4
      case measure => have := HI.out; omega
      case rel => exact ⟨12, by have := HI.out; omega, by first | rfl | kernel_rfl, by first | rfl | kernel_rfl, HB.out⟩
    · go_wp2_with fail
      go_roundg 3
      case measure => have := HI.out; omega
      case rel => exact ⟨13, by have := HI.out; omega, by first | rfl | kernel_rfl, by first | rfl | kernel_rfl, HB.out⟩
    · go_wp2_with fail
      go_roundg 2
      case measure => have := HI.out; omega
      case rel => exact ⟨14, by have := HI.out; omega, by first | rfl | kernel_rfl, by first | rfl | kernel_rfl, HB.out⟩
    · go_wp2_with fail
      go_roundg 1
      case measure => have := HI.out; omega
      case rel => exact ⟨15, by have := HI.out; omega, by first | rfl | kernel_rfl, by first | rfl | kernel_rfl, HB.out⟩
    · go_wp2_with fail
      go_roundg 0
      case measure => have := HI.out; omega
      case rel => exact ⟨16, by have := HI.out; omega, by first | rfl | kernel_rfl, by first | rfl | kernel_rfl, HB.out⟩
    · go_wp2_with fail
      go_ret
      exact ⟨by first | rfl | simp, HB.out⟩
set_option maxHeartbeats 4000000 in
set_option maxRecDepth 100000 in
theorem awake_calls (W : World) : Calls Try.prog 8 #[] W fun r w' => r = .returned (.bool true) ∧ Below W.heap.size W w' := by
  have hu24 := Try.underlying24
  have hu29 := Try.underlying29
  go_enter Try.func8, Try.ntmps8
  go_wp2_with fail
  refine (att_new 0 0 0 2 3 0 0 false false 0 0 100 100 0 0 W (by kernel_rfl)).mono ?_
  rintro e w1 ⟨ab, rfl, h1, h2, hb⟩
  have H1 := Aside0.mk h1
  have GE := Aside0.mk (show ∀ x ∈ [ab], W.heap.size ≤ x by intro x hx; simp at hx; omega)
  have B1 := Aside0.mk hb
  clear h1 h2 hb
  go_wp2_with fail
  refine (begin_first ab _ H1.out).mono ?_
  rintro e w2 ⟨sb, rfl, h1, h2, h3⟩
  have S2 := Aside0.mk h1
  have H2 := Aside0.mk h2
  have B2 := Aside0.mk (h3.below B1.out GE.out B1.out.size)
  have c0 := h1.cell 0
  have c1 := h1.cell 1
  simp only [List.getElem?_cons_zero, List.getElem?_cons_succ] at c0 c1
  clear h1 h2 h3 H1 B1
  go_wp2_with fail
  refine (out_one ab _ H2.out).mono ?_
  rintro e w3 ⟨rfl, hb⟩
  have H3 := Aside0.mk (H2.out.below' hb)
  have B3 := Aside0.mk (B2.out.trans (hb.mono B2.out.size))
  clear hb H2 B2 c0 c1
  go_wp2_with fail
  refine (begin_again ab _ H3.out).mono ?_
  rintro e w4 ⟨rfl, hb⟩
  have B4 := Aside0.mk (B3.out.trans (hb.mono B3.out.size))
  clear hb H3 B3
  go_wp2_with fail
  go_ret
  exact ⟨rfl, B4.out⟩
end Go.Proofs.Ytbhnpabanfbalaa.Att
