/- When a breaker opened, and all that try then go well, it is shut: the walk of BreakerHeals. -/
import Derived.Test.YtbbaonaahokidaaWalkBreakerCalm
namespace Go.Proofs.Ytbbaonaahokidaa.walkBreakerHeals
open Go.RowKit Go.Proofs.YtbbaonaahokidaaW.PrintWords Go.Proofs.YtbbaonaahokidaaW.PrintLast Go.Proofs.YtbbaonaahokidaaW.PrintMore Go.Proofs.Ytbbaonaahokidaa.Open Go.Proofs.Ytbbaonaahokidaa.Aid Go.Proofs.Ytbbaonaahokidaa.Quiet Go.Proofs.Ytbbaonaahokidaa.Blk Go.Proofs.Ytbbaonaahokidaa.State Go.Proofs.Ytbbaonaahokidaa.Vals Go.Proofs.Ytbbaonaahokidaa.Window Go.Proofs.Ytbbaonaahokidaa.WinRef Go.Proofs.Ytbbaonaahokidaa.Breaker Go.Proofs.Ytbbaonaahokidaa.walkBreakerCalm
set_option linter.unusedVariables false
set_option linter.unusedSimpArgs false
attribute [local go_sem] max2_int min2_int max_two min_two

/-- What stays: the given numbers' block, and the memory below. -/
structure Kp (W w : World) (xb br g gl : Nat) (r1 r2 r3 r4 r5 r6 : Int) : Prop where
  x : HoldsV 68 w xb [.int .i64 r1, .int .i64 r2, .int .i64 r3, .int .i64 r4, .int .i64 r5, .int .i64 r6]
  b : Below W.heap.size W w
  ne : xb ≠ br ∧ xb ≠ g ∧ xb ≠ gl ∧ W.heap.size ≤ br ∧ W.heap.size ≤ g ∧ W.heap.size ≤ gl
theorem Kp.go {W w w' : World} {xb br g gl : Nat} {r1 r2 r3 r4 r5 r6 : Int} (h : Kp W w xb br g gl r1 r2 r3 r4 r5 r6) (ho : OnlyIn [br, g, gl] w w') : Kp W w' xb br g gl r1 r2 r3 r4 r5 r6 :=
  ⟨ho.blk (by have := h.ne; simp; omega) h.x, ho.below h.b (by have := h.ne; intro x hx; simp at hx; omega) h.b.size, h.ne⟩
theorem Kp.next {W w w' : World} {xb br g gl : Nat} {r1 r2 r3 r4 r5 r6 : Int} (h : Kp W w xb br g gl r1 r2 r3 r4 r5 r6) (hb : Below w.heap.size w w') : Kp W w' xb br g gl r1 r2 r3 r4 r5 r6 := ⟨h.x.below' hb, h.b.trans (hb.mono h.b.size), h.ne⟩
theorem clampId (z : Int) (h : 0 ≤ z ∧ z ≤ 1000) : PBreakerHeals.ticks_Clamp.f z = some z := by
  have e : mn (mx z 0) 1099511627776 = z := by unfold mn mx; split <;> split <;> omega
  unfold PBreakerHeals.ticks_Clamp.f
  rw [e]
theorem past_at (now un : Int) (b : Bool) (hn : 0 ≤ now ∧ now ≤ 1000) (hu : 0 ≤ un ∧ un ≤ 1000) (hb : decide (un ≤ now) = b) : PBreakerHeals.ticks_Past.f now un = some b := by
  have c1 := clampId un hu
  have c2 := clampId now hn
  unfold PBreakerHeals.ticks_Past.f
  rw [c1, Option.bind_some, if_pos (by omega), c2, Option.bind_some, hb]
theorem after_at (now n : Int) (hn : 0 ≤ now ∧ now ≤ 1000) (hu : 0 ≤ n ∧ n ≤ 1000) : PBreakerHeals.ticks_After.f now n = some (now + n) := by
  have c1 := clampId n hu
  have c2 := clampId now hn
  unfold PBreakerHeals.ticks_After.f
  rw [c1, c2, Option.bind_some, Option.bind_some, w64 _ (by omega) (by omega), if_neg (by omega), w64 _ (by omega) (by omega)]
set_option maxHeartbeats 4000000 in
set_option maxRecDepth 100000 in
theorem core (a0 a1 a2 a3 a4 a5 ill r1 r2 r4 r5 r6 p0 p1 : Int) (B m ls tr : Nat) (cl wd co : Int) (W : World) (hn : PBreakerHeals.cablewaylaw17_near.f a0 a1 a2 a3 a4 a5 = some (r1, r2, (ls : Int), r4, r5, r6))
    (hB : mn (mx r1 1) 16 = (B : Int)) (hc : PPaceBands.ticks_Clamp.f r2 = some cl) (hwd : mx cl 1 = wd) (hwd1 : 1 ≤ wd ∧ wd ≤ 1099511627776) (hB1 : 1 ≤ B ∧ B ≤ 16) (hls : 1 ≤ ls ∧ ls ≤ 4) (hp0 : (if r4 < 1 then 1 else r4) = p0) (hp1 : (if 100 < p0 then 100 else p0) = p1) (hpb : 1 ≤ p1 ∧ p1 ≤ 100)
    (ht : (if r6 < 1 then 1 else r6) = (tr : Int)) (htb : 1 ≤ tr ∧ tr ≤ 3) (hcc : PBreakerHeals.ticks_Clamp.f r5 = some r5) (hco : (if r5 < 1 then 1 else r5) = co) (hcb : 1 ≤ co ∧ co ≤ 15)
    (hm : Go.bits .and .i64 ill 3 = (m : Int)) (hm1 : m ≤ 3) :
    Calls Try.prog 10 #[.agg #[.int .i64 a0, .int .i64 a1, .int .i64 a2, .int .i64 a3, .int .i64 a4, .int .i64 a5], .int .i64 ill] W fun e W' => e = .returned (.bool true) ∧ Below W.heap.size W W' := by
  have KN := Aside0.mk (fun w => PBreakerHeals.cablewaylaw17_near.calls a0 a1 a2 a3 a4 a5 r1 r2 ls r4 r5 r6 w hn)
  have NEW := Aside0.mk (fun w => new_at r1 r2 ls r4 r5 r6 ls p0 p1 r5 co tr cl wd B w hB hc hwd hwd1 hB1 (if_neg (by omega)) hp0 hp1 ht hcc hco)
  have HK := Aside0.mk (And.intro hm1 (And.intro hls (And.intro hpb (And.intro htb hcb))))
  have hu68 := Try.underlying68
  have hu52 := Try.underlying52
  clear hn hB hc hwd hwd1 hB1 hp0 hp1 hcc hco hls hpb htb hcb hm1
  go_enter Try.func10, Try.ntmps10
  go_wp2_with fail
  refine (KN.out _).mono ?_
  rintro e w1 ⟨rfl, hb⟩
  obtain ⟨xb, hxb⟩ : ∃ x, w1.heap.size = x := ⟨_, rfl⟩
  have B1 := Aside0.mk (show Below W.heap.size W (w1.alloc (.cells #[.int .i64 r1, .int .i64 r2, .int .i64 ls, .int .i64 r4, .int .i64 r5, .int .i64 r6] 68)) from by
    have h0 := (Below.refl W.heap.size W).alloc (Nat.le_refl _) (.cells #[.int .i64 a0, .int .i64 a1, .int .i64 a2, .int .i64 a3, .int .i64 a4, .int .i64 a5] 68)
    have h1 := h0.trans (hb.mono h0.size)
    exact h1.alloc h1.size _)
  have HX := Aside0.mk (show HoldsV 68 (w1.alloc (.cells #[.int .i64 r1, .int .i64 r2, .int .i64 ls, .int .i64 r4, .int .i64 r5, .int .i64 r6] 68)) xb [.int .i64 r1, .int .i64 r2, .int .i64 ls, .int .i64 r4, .int .i64 r5, .int .i64 r6] from by rw [← hxb]; exact heap_new _ _)
  clear hb
  go_wp2_with fail
  refine (NEW.out _).mono ?_
  rintro e w2 ⟨br, g, gl, rfl, hbr, hge, hb⟩
  have R2 := Aside0.mk (show Br w2 br g gl B r1 r2 ls p1 co tr wd 0 0 0 0 0 (L0 B (0 : Nat) (0 : Nat)) by rw [L0_zero B hbr.win.hB.1] at hbr; exact hbr)
  have K2 := Aside0.mk (show Kp W w2 xb br g gl r1 r2 ls r4 r5 r6 from ⟨HX.out.below' hb, B1.out.trans (hb.mono B1.out.size), by have := HX.out.lt; have := B1.out.size; omega⟩)
  clear hb hbr hge B1 HX hxb
  go_wp2_with fail
  go_loopg [8] 8 (fun gg v8 wx => ∃ i : Nat, gg + i = 8 ∧ v8 = .int .i64 (i : Int) ∧ Kp W wx xb br g gl r1 r2 ls r4 r5 r6 ∧ ((i < ls ∧ Br wx br g gl B r1 r2 ls p1 co tr wd 0 0 0 0 0 (L0 B 0 i)) ∨ (ls ≤ i ∧ Br wx br g gl B r1 r2 ls p1 co tr wd 1 co 0 0 0 (L0 B 0 0))))
  case atStart => exact ⟨0, rfl, rfl, K2.out, Or.inl ⟨by have := HK.out; omega, R2.out⟩⟩
  case round =>
    clear R2 K2
    obtain ⟨i, hi, rfl, hK, hR⟩ := hrel
    have K3 := Aside0.mk hK
    have RR := Aside0.mk hR
    have HI := Aside0.mk hi
    clear hK hR
    by_cases hlt : i < 8
    · have d1 : decide ((i : Int) < 8) = true := decide_eq_true (by omega)
      have NT := Aside0.mk (show Calls Try.prog 44 #[.pointer (some ⟨br, 0, none⟩), .int .i64 0, .bool false] wr fun r w' => r = .returned (.tuple #[]) ∧ ((i + 1 < ls ∧ Br w' br g gl B r1 r2 ls p1 co tr wd 0 0 0 0 0 (L0 B 0 (i + 1 : Nat))) ∨ (ls ≤ i + 1 ∧ Br w' br g gl B r1 r2 ls p1 co tr wd 1 co 0 0 0 (L0 B 0 0))) ∧ OnlyIn [br, g, gl] wr w' by
        have hk := HK.out
        rcases RR.out with ⟨h1, h2⟩ | ⟨h1, h2⟩
        · by_cases h3 : i + 1 < ls
          · refine (note_calm br g gl B r1 r2 ls p1 co tr 0 0 0 wd 0 i 0 (i + 1 : Nat) false wr h2 (by omega) (by omega) ⟨rfl, by simp⟩ (by omega) (by rw [decide_eq_false (by omega)]; rfl)).mono ?_
            rintro r w' ⟨h4, h5, h6⟩
            exact ⟨h4, Or.inl ⟨h3, h5⟩, h6⟩
          · refine (note_worse br g gl B r1 r2 ls p1 co tr 0 0 0 wd 0 i 0 (i + 1 : Nat) co false wr h2 (by omega) (by omega) ⟨rfl, by simp⟩ (by omega) (by
              obtain ⟨q, hq⟩ : ∃ q : Int, ((i + 1 : Nat) : Int) = q := ⟨_, rfl⟩
              rw [hq, Int.zero_add]
              have h7 : q * p1 ≤ q * 100 := Int.mul_le_mul_of_nonneg_left hk.2.2.1.2 (by omega)
              rw [decide_eq_true (by omega), decide_eq_true h7]; rfl) (by have := after_at 0 co (by omega) (by omega); rw [Int.zero_add] at this; exact this)).mono ?_
            rintro r w' ⟨h4, h5, h6⟩
            exact ⟨h4, Or.inr ⟨by omega, h5⟩, h6⟩
        · refine (note_open br g gl B r1 r2 ls p1 co tr co 0 0 wd 0 false 0 (L0 B 0 0) wr h2 (past_at 0 co false (by omega) (by omega) (decide_eq_false (by omega)))).mono ?_
          rintro r w' ⟨h4, h5, h6⟩
          exact ⟨h4, Or.inr ⟨by omega, h5⟩, h6⟩)
      clear hi RR
      go_wp2_with fail
      refine NT.out.mono ?_
      rintro e w4 ⟨rfl, h1, h2⟩
      have R4 := Aside0.mk h1
      have K4 := Aside0.mk (K3.out.go h2)
      clear h1 h2 K3 NT
      go_wp2_with fail
      go_roundg (8 - (i + 1))
      case measure => have := HI.out; omega
      case rel => exact ⟨i + 1, by have := HI.out; omega, by go_num, K4.out, R4.out⟩
    · have d1 : decide ((i : Int) < 8) = false := decide_eq_false (by omega)
      have R3 := Aside0.mk (show Br wr br g gl B r1 r2 ls p1 co tr wd 1 co 0 0 0 (L0 B 0 0) by
        have hk := HK.out
        rcases RR.out with ⟨h1, h2⟩ | ⟨h1, h2⟩
        · omega
        · exact h2)
      clear RR hi
      go_wp2_with fail
      refine (awake_br _).mono ?_
      rintro e w4 ⟨rfl, hb⟩
      have R4 := Aside0.mk (R3.out.below' hb)
      have K4 := Aside0.mk (K3.out.next hb)
      clear hb R3 K3
      go_wp2_with fail
      refine (R4.out.st1 0 (past_at 0 co false (by omega) (by have := HK.out; omega) (decide_eq_false (by have := HK.out; omega)))).mono ?_
      rintro e w5 ⟨rfl, h1, h2⟩
      have R5 := Aside0.mk h1
      have K5 := Aside0.mk (K4.out.go h2)
      clear h1 h2 R4 K4
      go_wp2_with fail
      clear HI hlt d1
      go_loopg [7, 9] m (fun gg v7 v9 wx => ∃ (k : Nat) (nw un : Int), gg + k = m ∧ v7 = .int .i64 nw ∧ v9 = .int .i64 (k : Int) ∧ nw = 20 * k ∧ un = nw + co ∧ Kp W wx xb br g gl r1 r2 ls r4 r5 r6 ∧ Br wx br g gl B r1 r2 ls p1 co tr wd 1 un 0 0 0 (L0 B 0 0))
      case atStart => exact ⟨0, 0, co, by omega, rfl, rfl, by omega, by omega, K5.out, R5.out⟩
      case round =>
        clear R5 K5
        obtain ⟨k, nw, un, hk, rfl, rfl, hnw, hun, hK, hR⟩ := hrel
        have K6 := Aside0.mk hK
        have R6 := Aside0.mk hR
        have HI := Aside0.mk (And.intro hk (And.intro hnw hun))
        clear hK hR hnw hun
        by_cases hlt : k < m
        · have d1 : decide ((k : Int) < (m : Int)) = true := decide_eq_true (by omega)
          obtain ⟨nw2, hnw2⟩ : ∃ x, nw + 20 = x := ⟨_, rfl⟩
          have k1 : IntKind.i64.wrap (nw + 20) = nw2 := by have := HI.out; have := HK.out; rw [IntKind.wrap_i64]; omega
          have N2 := Aside0.mk (show nw2 = 20 * (k + 1) ∧ 20 ≤ nw2 ∧ nw2 ≤ 60 ∧ nw2 = nw + 20 by have := HI.out; have := HK.out; omega)
          clear hk hnw2
          go_wp2_with fail
          refine (R6.out.may12 nw2 ((tr : Int) - 1) (past_at nw2 un true (by have := N2.out; omega) (by have := N2.out; have := HI.out; have := HK.out; omega) (decide_eq_true (by have := N2.out; have := HI.out; have := HK.out; omega))) (by have := HK.out; omega) rfl).mono ?_
          rintro e w7 ⟨rfl, h1, h2⟩
          have R7 := Aside0.mk h1
          have K7 := Aside0.mk (K6.out.go h2)
          clear h1 h2 R6 K6
          go_wp2_with fail
          refine (R7.out.st2 nw2).mono ?_
          rintro e w8 ⟨rfl, h1, h2⟩
          have R8 := Aside0.mk h1
          have K8 := Aside0.mk (K7.out.go h2)
          clear h1 h2 R7 K7
          go_wp2_with fail
          have KH := Aside0.mk (fun (w : World) (h : Br w br g gl B r1 r2 ls p1 co tr wd 2 un ((tr : Int) - 1) 1 0 (L0 B 0 0)) => (show Calls Try.prog 69 #[.pointer (some ⟨br, 0, none⟩), .int .i64 nw2, .bool false] w (Breaker.Left w br g gl B r1 r2 ls p1 co tr wd 1 (nw2 + co) 0 0 0 (L0 B 0 0) (.tuple #[])) by
            have hh := half_ill br g gl B r1 r2 ls p1 co tr 2 un ((tr : Int) - 1) 1 wd nw2 (nw2 + co) 0 (L0 B 0 0) w h (after_at nw2 co (by have := N2.out; omega) (by have := HK.out; omega))
            rw [L0_zero B h.win.hB.1] at hh
            exact hh))
          refine (note_half br g gl B r1 r2 ls p1 co tr un ((tr : Int) - 1) 1 wd nw2 1 (nw2 + co) 0 0 false 0 (L0 B 0 0) (L0 B 0 0) w8 R8.out KH.out).mono ?_
          rintro e w9 ⟨rfl, h1, h2⟩
          have R9 := Aside0.mk h1
          have K9 := Aside0.mk (K8.out.go h2)
          clear KH h1 h2 R8 K8
          go_wp2_with fail
          refine (R9.out.st1 nw2 (past_at nw2 (nw2 + co) false (by have := N2.out; omega) (by have := N2.out; have := HK.out; omega) (decide_eq_false (by have := HK.out; omega)))).mono ?_
          rintro e w10 ⟨rfl, h1, h2⟩
          have R10 := Aside0.mk h1
          have K10 := Aside0.mk (K9.out.go h2)
          clear h1 h2 R9 K9
          go_wp2_with fail
          go_roundg (m - (k + 1))
          case measure => have := HI.out; omega
          case rel => exact ⟨k + 1, nw2, nw2 + co, by have := HI.out; omega, rfl, (by rw [wsucc _ (by have := HK.out; have := HI.out; omega)]), by have := N2.out; omega, rfl, K10.out, R10.out⟩
        · have d1 : decide ((k : Int) < (m : Int)) = false := decide_eq_false (by omega)
          obtain ⟨nw2, hnw2⟩ : ∃ x, nw + 20 = x := ⟨_, rfl⟩
          have k1 : IntKind.i64.wrap (nw + 20) = nw2 := by have := HI.out; have := HK.out; rw [IntKind.wrap_i64]; omega
          have N2 := Aside0.mk (show 20 ≤ nw2 ∧ nw2 ≤ 80 ∧ un + 5 ≤ nw2 ∧ 0 ≤ un by have := HI.out; have := HK.out; omega)
          clear hk hnw2
          go_wp2_with fail
          clear HI hlt d1 k1
          go_loopg [10] tr (fun gg v10 wx => ∃ j : Nat, gg + j = tr ∧ v10 = .int .i64 (j : Int) ∧ Kp W wx xb br g gl r1 r2 ls r4 r5 r6 ∧ ((j = 0 ∧ Br wx br g gl B r1 r2 ls p1 co tr wd 1 un 0 0 0 (L0 B 0 0)) ∨ Br wx br g gl B r1 r2 ls p1 co tr wd 2 un (tr - j : Nat) j 0 (L0 B 0 0)))
          case atStart => exact ⟨0, by omega, rfl, K6.out, Or.inl ⟨rfl, R6.out⟩⟩
          case round =>
            clear R6 K6
            obtain ⟨j, hj, rfl, hK, hR⟩ := hrel
            have KK := Aside0.mk hK
            have ST := Aside0.mk (show Calls Try.prog 42 #[.pointer (some ⟨br, 0, none⟩), .int .i64 nw2] wr (Breaker.Left wr br g gl B r1 r2 ls p1 co tr wd 2 un (tr - j : Nat) j 0 (L0 B 0 0) (.int .i64 2)) by
              rcases hR with ⟨rfl, h⟩ | h
              · exact h.st12 nw2 (past_at nw2 un true (by have := N2.out; omega) (by have := N2.out; omega) (decide_eq_true (by have := N2.out; omega)))
              · exact h.st2 nw2)
            have HI := Aside0.mk hj
            clear hK hR hj
            go_wp2_with fail
            refine ST.out.mono ?_
            rintro e w7 ⟨rfl, h1, h2⟩
            have R7 := Aside0.mk h1
            have K7 := Aside0.mk (KK.out.go h2)
            clear h1 h2 ST KK
            by_cases hlt : j < tr
            · have d2 : decide ((j : Int) < 9) = true := decide_eq_true (by have := HK.out; omega)
              have d3 : j < 9 := by have := HK.out; omega
              go_wp2_with fail
              refine (R7.out.may2 nw2 (tr - (j + 1) : Nat) (j + 1 : Nat) (by have := HK.out; omega) (by have := HK.out; omega) (by omega) (by omega)).mono ?_
              rintro e w8 ⟨rfl, h1, h2⟩
              have R8 := Aside0.mk h1
              have K8 := Aside0.mk (K7.out.go h2)
              clear h1 h2 R7 K7
              go_wp2_with fail
              go_roundg (tr - (j + 1))
              case measure => have := HI.out; omega
              case rel => exact ⟨j + 1, by have := HI.out; omega, by go_num, K8.out, Or.inr R8.out⟩
            · obtain rfl : j = tr := by have := HI.out; omega
              have R8 := Aside0.mk (show Br w7 br g gl B r1 r2 ls p1 co j wd 2 un 0 j 0 (L0 B 0 0) by have h := R7.out; rw [Nat.sub_self] at h; exact h)
              clear R7 hlt
              have K8 := K7
              clear K7
              go_wp2_with fail
              refine (R8.out.may20 nw2).mono ?_
              rintro e w9 ⟨rfl, h1, h2⟩
              have R9 := Aside0.mk h1
              have K9 := Aside0.mk (K8.out.go h2)
              clear h1 h2 R8 K8
              go_wp2_with fail
              clear HI
              go_loopg [11] j (fun gg v11 wx => ∃ i : Nat, gg + i = j ∧ v11 = .int .i64 (i : Int) ∧ Kp W wx xb br g gl r1 r2 ls r4 r5 r6 ∧ Br wx br g gl B r1 r2 ls p1 co j wd (if i < j then 2 else 0) un 0 (j - i : Nat) 0 (L0 B 0 0))
              case atStart => exact ⟨0, by omega, rfl, K9.out, by rw [if_pos (by have := HK.out; omega)]; exact R9.out⟩
              case round =>
                clear R9 K9
                obtain ⟨i, hi, rfl, hK, hR⟩ := hrel
                have K10 := Aside0.mk hK
                have HI := Aside0.mk hi
                clear hK hi
                by_cases hlt : i < j
                · rw [if_pos hlt] at hR
                  have R10 := Aside0.mk hR
                  clear hR
                  have d1 : decide ((i : Int) < (j : Int)) = true := decide_eq_true (by omega)
                  go_wp2_with fail
                  refine (R10.out.st2 nw2).mono ?_
                  rintro e w11 ⟨rfl, h1, h2⟩
                  have R11 := Aside0.mk h1
                  have K11 := Aside0.mk (K10.out.go h2)
                  clear h1 h2 R10 K10
                  go_wp2_with fail
                  have KH := Aside0.mk (fun (w : World) (h : Br w br g gl B r1 r2 ls p1 co j wd 2 un 0 (j - i : Nat) 0 (L0 B 0 0)) => (show Calls Try.prog 69 #[.pointer (some ⟨br, 0, none⟩), .int .i64 nw2, .bool true] w (Breaker.Left w br g gl B r1 r2 ls p1 co j wd (if i + 1 < j then 2 else 0) un 0 (j - (i + 1) : Nat) 0 (L0 B 0 0) (.tuple #[])) by
                    have hh := half_well br g gl B r1 r2 ls p1 co j un 0 (j - i : Nat) (j - (i + 1) : Nat) wd nw2 (decide (i + 1 = j)) 0 (L0 B 0 0) w h (by have := HK.out; omega) (by omega) (by
                      by_cases hx : i + 1 = j
                      · rw [decide_eq_true hx, decide_eq_true (by omega), decide_eq_true (by omega)]; rfl
                      · rw [decide_eq_false hx, decide_eq_true (by omega), decide_eq_false (by omega)]; rfl)
                    rw [L0_zero B h.win.hB.1, ite_self] at hh
                    by_cases hx : i + 1 = j
                    · rw [decide_eq_true hx, if_pos rfl] at hh
                      rw [if_neg (by omega)]
                      exact hh
                    · rw [decide_eq_false hx, if_neg (by decide)] at hh
                      rw [if_pos (by omega)]
                      exact hh))
                  refine (note_half br g gl B r1 r2 ls p1 co j un 0 (j - i : Nat) wd nw2 (if i + 1 < j then 2 else 0) un 0 (j - (i + 1) : Nat) true 0 (L0 B 0 0) (L0 B 0 0) w11 R11.out KH.out).mono ?_
                  rintro e w12 ⟨rfl, h1, h2⟩
                  have R12 := Aside0.mk h1
                  have K12 := Aside0.mk (K11.out.go h2)
                  clear KH h1 h2 R11 K11
                  go_wp2_with fail
                  go_roundg (j - (i + 1))
                  case measure => have := HI.out; omega
                  case rel => exact ⟨i + 1, by have := HI.out; omega, by rw [wsucc _ (by have := HK.out; have := HI.out; omega)], K12.out, R12.out⟩
                · rw [if_neg hlt] at hR
                  have R10 := Aside0.mk hR
                  clear hR
                  have d1 : decide ((i : Int) < (j : Int)) = false := decide_eq_false (by omega)
                  go_wp2_with fail
                  refine (note_none nw2 false _).mono ?_
                  rintro e w11 ⟨rfl, hb⟩
                  have R11 := Aside0.mk (R10.out.below' hb)
                  have K11 := Aside0.mk (K10.out.next hb)
                  clear hb R10 K10
                  have x5 := K11.out.x.cell 5
                  simp only [List.getElem?_cons_zero, List.getElem?_cons_succ] at x5
                  go_wp2_with fail
                  refine (R11.out.st0 nw2).mono ?_
                  rintro e w12 ⟨rfl, h1, h2⟩
                  have R12 := Aside0.mk h1
                  have K12 := Aside0.mk (K11.out.go h2)
                  clear h1 h2 R11 K11
                  go_wp2_with fail
                  refine (R12.out.may0 nw2).mono ?_
                  rintro e w13 ⟨rfl, h1, h2⟩
                  have R13 := Aside0.mk h1
                  have K13 := Aside0.mk (K12.out.go h2)
                  clear h1 h2 R12 K12
                  go_wp2_with fail
                  refine (may_nil nw2 _).mono ?_
                  rintro e w14 ⟨rfl, hb⟩
                  have R14 := Aside0.mk (R13.out.below' hb)
                  have K14 := Aside0.mk (K13.out.next hb)
                  clear hb R13 K13
                  go_wp2_with fail
                  refine (state_nil nw2 _).mono ?_
                  rintro e w15 ⟨rfl, hb⟩
                  have R15 := Aside0.mk (R14.out.below' hb)
                  have K15 := Aside0.mk (K14.out.next hb)
                  clear hb R14 K14
                  go_wp2_with fail
                  refine (counts_none nw2 _).mono ?_
                  rintro e w16 ⟨rfl, hb⟩
                  have R16 := Aside0.mk (R15.out.below' hb)
                  have K16 := Aside0.mk (K15.out.next hb)
                  clear hb R15 K15
                  go_wp2_with fail
                  go_ret
                  exact ⟨rfl, K16.out.b⟩
theorem walk (a0_0 : Int) (a0_1 : Int) (a0_2 : Int) (a0_3 : Int) (a0_4 : Int) (a0_5 : Int) (a1 : Int) (W : World) (w0_0 : (Lit.int .i64 a0_0).wf = true) (w0_1 : (Lit.int .i64 a0_1).wf = true) (w0_2 : (Lit.int .i64 a0_2).wf = true) (w0_3 : (Lit.int .i64 a0_3).wf = true) (w0_4 : (Lit.int .i64 a0_4).wf = true) (w0_5 : (Lit.int .i64 a0_5).wf = true) (w1 : (Lit.int .i64 a1).wf = true) :
    Calls Try.prog 10 #[.agg #[.int .i64 a0_0, .int .i64 a0_1, .int .i64 a0_2, .int .i64 a0_3, .int .i64 a0_4, .int .i64 a0_5], .int .i64 a1] W fun e W' => e = .returned (.bool true) ∧ Below W.heap.size W W' := by
  obtain ⟨r1, hr1⟩ : ∃ x, Go.bits .and .i64 a0_0 3 = x := ⟨_, rfl⟩
  obtain ⟨r2, hr2⟩ : ∃ x, Go.bits .and .i64 a0_1 7 = x := ⟨_, rfl⟩
  obtain ⟨r3, hr3⟩ : ∃ x, wrap64 (Go.bits .and .i64 a0_2 3 + 1) = x := ⟨_, rfl⟩
  obtain ⟨r4, hr4⟩ : ∃ x, Go.bits .and .i64 a0_3 127 = x := ⟨_, rfl⟩
  obtain ⟨r5, hr5⟩ : ∃ x, Go.bits .and .i64 a0_4 15 = x := ⟨_, rfl⟩
  obtain ⟨r6, hr6⟩ : ∃ x, Go.bits .and .i64 a0_5 3 = x := ⟨_, rfl⟩
  have b3 : r3 = a0_2 % 4 + 1 := by rw [← hr3, i64_and3, w64 _ (by omega) (by omega)]
  have b5 : r5 = a0_4 % 16 := by rw [← hr5, i64_and15]
  have b6 : r6 = a0_5 % 4 := by rw [← hr6, i64_and3]
  have hb : 1 ≤ mn (mx r1 1) 16 ∧ mn (mx r1 1) 16 ≤ 16 := by unfold mn mx; split <;> split <;> omega
  obtain ⟨B, hB⟩ := Int.eq_ofNat_of_zero_le (show 0 ≤ mn (mx r1 1) 16 by omega)
  obtain ⟨cl, hcl, _, hcb⟩ := clampB r2
  have hwd : 1 ≤ mx cl 1 ∧ mx cl 1 ≤ 1099511627776 := by unfold mx; split <;> omega
  obtain ⟨ls, hls⟩ : ∃ ls : Nat, r3 = (ls : Int) := ⟨r3.toNat, by omega⟩
  obtain ⟨tr, htr⟩ : ∃ tr : Nat, (if r6 < 1 then 1 else r6) = (tr : Int) := ⟨(if r6 < 1 then 1 else r6).toNat, by split <;> omega⟩
  have htb : 1 ≤ tr ∧ tr ≤ 3 := by split at htr <;> omega
  exact core a0_0 a0_1 a0_2 a0_3 a0_4 a0_5 a1 r1 r2 r4 r5 r6 _ _ B (a1 % 4).toNat ls tr cl (mx cl 1) _ W (by rw [← hls, ← hr1, ← hr2, ← hr3, ← hr4, ← hr5, ← hr6]; rfl) hB hcl rfl hwd (by omega) (by omega) rfl rfl (by split <;> split <;> omega) htr htb
    (clampId _ (by omega)) rfl (by split <;> omega) (by rw [i64_and3]; omega) (by omega)
end Go.Proofs.Ytbbaonaahokidaa.walkBreakerHeals
