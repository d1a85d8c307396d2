/- Who tries to end a turn, and is slow, does not end the next one: the walk of SettleLate. -/
import Derived.Test.YthonkcldddfpnaaDoorSettleA
import Derived.Deep.CutBlock
namespace Go.Proofs.YthonkcldddfpnaaDoor.walkSettleLate
open Go.RowKit Go.Proofs.YthonkcldddfpnaaDoorW.PrintWords Go.Proofs.YthonkcldddfpnaaDoorW.PrintLast Go.Proofs.YthonkcldddfpnaaDoorW.PrintMore Go.Proofs.YthonkcldddfpnaaDoor.Aid Go.Proofs.YthonkcldddfpnaaDoor.Quiet Go.Proofs.YthonkcldddfpnaaDoor.Blk Go.Proofs.YthonkcldddfpnaaDoor.State Go.Proofs.YthonkcldddfpnaaDoor.Vals Go.Proofs.YthonkcldddfpnaaDoor.Arena Go.Proofs.YthonkcldddfpnaaDoor.SlotF Go.Proofs.YthonkcldddfpnaaDoor.Slot Go.Proofs.YthonkcldddfpnaaDoor.Settle
set_option linter.unusedVariables false
set_option linter.unusedSimpArgs false

/-- How the slow one stands behind i more steps: the cell has v, that is not of its turn. -/
def LT (x v : Nat) (i : Nat) (a : Int) (z : Nat) : Prop := (a = 3 ∧ z = v) ∨ (i ≤ 1 ∧ a = 0) ∨ (i = 0 ∧ a = 1 ∧ z = x)
theorem step_lt {W : World} {B2 ga gc : Nat} {w : World} {ks : List (Nat × List Value)} (k x y v i m : Nat) (a : Int) (z : Nat) (gl : LaidSlot.Cells W) (hv : v < 2 ^ 64) (hk : m ≤ 98) (hne : v ≠ x) (hlv : liveB v (k : Int) = false)
    (CL : ∀ w, LaidSlot.Cells w → Calls Tryd.prog 29 #[.int .u64 (x : Int), .int .i64 16777215] w fun r w' => r = .returned (.int .u64 (y : Int)) ∧ Below w.heap.size w w')
    (hp : LT x v i a z) (h : AS W B2 ga gc 1 w [(v : Int)] m ks) :
    Calls Tryd.prog 33 #[.agg #[.int .i64 0, .int .i64 (k : Int), .int .i64 16777215, .int .i64 a, .int .u64 (z : Int)], .pointer (some ⟨ga, 0, none⟩)] w fun r w' => ∃ (a2 : Int) (z2 : Nat), r = .returned (.agg #[.int .i64 0, .int .i64 (k : Int), .int .i64 16777215, .int .i64 a2, .int .u64 (z2 : Int)]) ∧ AS W B2 ga gc 1 w' [(v : Int)] (m + 1) ks ∧ LT x v (i + 1) a2 z2 := by
  rcases hp with ⟨h1, h2⟩ | ⟨h1, h2⟩ | ⟨h1, h2, h3⟩
  · rw [h1]
    refine (step_stay3 0 (k : Int) 16777215 z h gl).mono ?_
    rintro r w' ⟨h3, h4⟩
    exact ⟨3, z, h3, h4.more (by omega), Or.inl ⟨rfl, h2⟩⟩
  · rw [h2]
    refine (step_look 0 (k : Int) 16777215 z v gl (by omega) hk rfl hv 3 (by rw [hlv]; rfl) h).mono ?_
    rintro r w' ⟨h3, h4⟩
    exact ⟨3, v, h3, h4, Or.inl ⟨rfl, rfl⟩⟩
  · rw [h2, h3]
    refine (step_lost 0 (k : Int) 16777215 x y CL gl (by omega) hk (fun e => hne (by have e' : (v : Int) = (x : Int) := e; omega)) h).mono ?_
    rintro r w' ⟨h4, h5⟩
    exact ⟨0, x, h4, h5, Or.inr (Or.inl ⟨by omega, rfl⟩)⟩
theorem done_lt (k x v i : Nat) (a : Int) (z : Nat) (hi : 2 ≤ i) (h : LT x v i a z) : a = 3 := by
  rcases h with ⟨h1, _⟩ | ⟨h1, _⟩ | ⟨h1, _⟩
  · exact h1
  · omega
  · omega
set_option maxHeartbeats 8000000 in
set_option maxRecDepth 100000 in
theorem core (a0 a1 : Int) (k : Nat) (b1 b2 : Bool) (W : World) (gl : LaidSlot.Cells W) (ha : Go.bits .and .i64 a0 65535 = (k : Int) - 1) (hk : 1 ≤ k ∧ k ≤ 65536) (h1 : (Go.bits .and .i64 a1 1 == 1) = b1) (h2 : decide (0 < Go.bits .and .i64 a1 2) = b2) :
    Calls Tryd.prog 10 #[.int .i64 a0, .int .i64 a1] W fun e W' => e = .returned (.bool true) ∧ Below W.heap.size W W' := by
  have hu60 := Tryd.underlying60
  have hz := Cells.size gl
  have GL := Aside0.mk gl
  have hk1 : (k : Int) - 1 + 1 = k := by omega
  have HK := Aside0.mk hk
  have hx := wordN_lt k 1
  have hxs : stN (wordN k 1) = 1 := wordN_st _ 1
  have hxg : genN (wordN k 1) = k := by rw [wordN_gen]; omega
  have WC := Aside0.mk (fun (w : World) (g : LaidSlot.Cells w) => word_calls k 1 k 1 w g (by unfold mx; rw [if_neg (by omega)]) (by kernel_rfl) (by omega) (by omega))
  generalize wordN k 1 = x at hx hxs hxg WC
  obtain ⟨y, hy, hyg, hys, CL0⟩ := Slot3.close_some x hx 16777215 16777215 (by kernel_rfl) (Or.inl hxs)
  rw [hxg, if_pos (by omega)] at hys
  obtain ⟨u, hu, hug, hus, OP0⟩ := Slot3.open_some false y hy 16777215 16777215 (by kernel_rfl) hys (by omega)
  have CL := Aside0.mk CL0
  have OP := Aside0.mk OP0
  have HX := Aside0.mk (And.intro hx (And.intro hxs hxg))
  have HLX := Aside0.mk (show liveB x (k : Int) = true from decide_eq_true ⟨by rw [hxg], Or.inl hxs⟩)
  have HY := Aside0.mk (show y < 2 ^ 64 ∧ y ≠ x ∧ liveB y (k : Int) = false from ⟨hy, (fun e => by rw [e, hxs] at hys; cases hys), decide_eq_false (by rintro ⟨_, h⟩; omega)⟩)
  have HU := Aside0.mk (show u < 2 ^ 64 ∧ u ≠ x ∧ liveB u (k : Int) = false from ⟨hu, (fun e => by rw [e] at hug; omega), decide_eq_false (by rintro ⟨h, _⟩; omega)⟩)
  have H1 := Aside0.mk h1
  have H2 := Aside0.mk h2
  clear gl h1 h2 hx hxs hxg CL0 OP0 hy hyg hys hu hug hus
  go_enter Tryd.func10, Tryd.ntmps10
  go_wp2_with fail
  refine (new_as 1 W _ (by omega) (Below.refl _ _)).mono ?_
  rintro e w1 ⟨B2, ga, gc, rfl, h1⟩
  have A1 := Aside0.mk (show AS W B2 ga gc 1 w1 [0] 0 [] from h1)
  clear h1
  go_wp2_with fail
  refine (WC.out _ (Cells.below GL.out A1.out.below hz)).mono ?_
  rintro e w2 ⟨rfl, hb⟩
  have A2 := Aside0.mk (A1.out.next hb)
  clear hb A1
  go_wp2_with fail
  refine (write_as 0 (x : Int) (by omega) (by omega) A2.out).mono ?_
  rintro e w3 ⟨rfl, h2⟩
  have A3 := Aside0.mk (show AS W B2 ga gc 1 w3 [(x : Int)] 1 [] from h2)
  clear h2 A2
  go_wp2_with fail
  refine (task_new 0 (k : Int) 16777215 _).mono ?_
  rintro e w4 ⟨rfl, hb⟩
  have A4 := Aside0.mk (A3.out.next hb)
  clear hb A3
  go_upto_region 5 with fail
  obtain ⟨tb, htb⟩ : ∃ tb, w4.heap.size = tb := ⟨_, rfl⟩
  have A5 := Aside0.mk (show AS W B2 ga gc 1 (w4.alloc (.cells #[.int .i64 0, .int .i64 (k : Int), .int .i64 16777215, .int .i64 0, .int .u64 0] 60)) [(x : Int)] 1 [(tb, tkv 0 (k : Int) 16777215 0 (0 : Nat))] from by
    subst htb
    exact (A4.out.next ((Below.refl w4.heap.size w4).alloc (Nat.le_refl _) _)).add (heap_new _ _) A4.out.below.size)
  obtain ⟨w5, hw5⟩ : ∃ ww, w4.alloc (.cells #[.int .i64 0, .int .i64 (k : Int), .int .i64 16777215, .int .i64 0, .int .u64 0] 60) = ww := ⟨_, rfl⟩
  rw [hw5] at A5 ⊢
  try simp only [htb]
  clear hw5 htb A4
  go_wp2_with fail
  refine (task_new 0 (k : Int) 16777215 _).mono ?_
  rintro e w6 ⟨rfl, hb⟩
  have A6 := Aside0.mk (A5.out.next hb)
  clear hb A5
  go_wp2_with fail
  refine (step_look 0 (k : Int) 16777215 0 x GL.out (by omega) (by omega) rfl HX.out.1 1 (by rw [HLX.out]; rfl) A6.out).mono ?_
  rintro e w7 ⟨rfl, h2⟩
  have A7 := Aside0.mk h2
  clear h2 A6
  go_upto_region 6 with fail
  obtain ⟨ub, hub⟩ : ∃ ub, w7.heap.size = ub := ⟨_, rfl⟩
  have HNE := Aside0.mk (show tb ≠ ub from fun e => by have := A7.out.head.lt; omega)
  have A8 := Aside0.mk (show AS W B2 ga gc 1 (w7.alloc (.cells #[.int .i64 0, .int .i64 (k : Int), .int .i64 16777215, .int .i64 1, .int .u64 (x : Int)] 60)) [(x : Int)] 2 [(ub, tkv 0 (k : Int) 16777215 1 x), (tb, tkv 0 (k : Int) 16777215 0 (0 : Nat))] from by
    subst hub
    exact (A7.out.next ((Below.refl w7.heap.size w7).alloc (Nat.le_refl _) _)).add (heap_new _ _) A7.out.below.size)
  obtain ⟨w8, hw8⟩ : ∃ ww, w7.alloc (.cells #[.int .i64 0, .int .i64 (k : Int), .int .i64 16777215, .int .i64 1, .int .u64 (x : Int)] 60) = ww := ⟨_, rfl⟩
  rw [hw8] at A8 ⊢
  try simp only [hub]
  clear hw8 hub A7
  have h1 := H1.out
  clear ha
  go_upto_if 33 with fail
  go_cut [] from 34 to 36 (fun wx => ∃ (a : Int) (z : Nat), AS W B2 ga gc 1 wx [(x : Int)] 3 [(ub, tkv 0 (k : Int) 16777215 1 x), (tb, tkv 0 (k : Int) 16777215 a z)] ∧ (a = 0 ∨ (a = 1 ∧ z = x)))
  case first =>
    cases b1
    · go_wp2_with fail
      go_meet
      exact ⟨0, 0, A8.out.more (by omega), Or.inl rfl⟩
    · have S8 := Aside0.mk A8.out.swap2
      have c0 := S8.out.head.cell 0
      have c1 := S8.out.head.cell 1
      have c2 := S8.out.head.cell 2
      have c3 := S8.out.head.cell 3
      have c4 := S8.out.head.cell 4
      simp only [tkv, List.getElem?_cons_zero, List.getElem?_cons_succ] at c0 c1 c2 c3 c4
      go_wp2_with fail
      refine (step_look 0 (k : Int) 16777215 0 x GL.out (by omega) (by omega) rfl HX.out.1 1 (by rw [HLX.out]; rfl) S8.out).mono ?_
      rintro e w9 ⟨rfl, h2⟩
      have A9 := Aside0.mk h2
      clear h2 c0 c1 c2 c3 c4 S8 A8
      go_wp2_with (first | ((with_reducible refine gate_store (t := 60) (p := 7) (v := .tmp 36) rfl ?_); refine wpList_store_row rfl 60 (.tmp 7) (.tmp 36) rfl tb ([.int .i64 0, .int .i64 (k : Int), .int .i64 16777215, .int .i64 1, .int .u64 (x : Int)] : List Value).toArray rfl rfl 60 _ A9.out.head (by kernel_rfl) rfl (by kernel_rfl) ?_))
      go_meet
      exact ⟨1, x, (A9.out.row (vs' := tkv 0 (k : Int) 16777215 1 x) (fun q hq => by simp at hq; subst hq; exact HNE.out.symm)).swap2, Or.inr ⟨rfl, rfl⟩⟩
  case rest =>
    obtain ⟨a, z, hA, hz0⟩ := hcut
    have A9 := Aside0.mk hA
    have HZ0 := Aside0.mk hz0
    clear hA hz0 A8
    have c0 := A9.out.head.cell 0
    have c1 := A9.out.head.cell 1
    have c2 := A9.out.head.cell 2
    have c3 := A9.out.head.cell 3
    have c4 := A9.out.head.cell 4
    simp only [tkv, List.getElem?_cons_zero, List.getElem?_cons_succ] at c0 c1 c2 c3 c4
    go_wp2_with fail
    refine (step_swap 0 (k : Int) 16777215 x y CL.out GL.out (by omega) (by omega) rfl A9.out).mono ?_
    rintro e w10 ⟨rfl, h2⟩
    have A10 := Aside0.mk (show AS W B2 ga gc 1 w10 [(y : Int)] 4 [(ub, tkv 0 (k : Int) 16777215 1 x), (tb, tkv 0 (k : Int) 16777215 a z)] from h2)
    clear h2 A9 c0 c1 c2 c3 c4
    go_upto_region 9 with (first | ((with_reducible refine gate_store (t := 60) (p := 8) (v := .tmp 39) rfl ?_); refine wpList_store_row rfl 60 (.tmp 8) (.tmp 39) rfl ub ([.int .i64 0, .int .i64 (k : Int), .int .i64 16777215, .int .i64 2, .int .u64 (y : Int)] : List Value).toArray rfl rfl 60 _ A10.out.head (by kernel_rfl) rfl (by kernel_rfl) ?_))
    have A11 := Aside0.mk (A10.out.row (vs' := tkv 0 (k : Int) 16777215 2 y) (fun q hq => by simp at hq; subst hq; exact HNE.out)).swap2
    have h2 := H2.out
    clear h1 A10
    go_upto_if 42 with fail
    go_cut [] from 43 to 51 (fun wx => ∃ v : Nat, AS W B2 ga gc 1 wx [(v : Int)] 5 [(tb, tkv 0 (k : Int) 16777215 a z), (ub, tkv 0 (k : Int) 16777215 2 y)] ∧ (v < 2 ^ 64 ∧ v ≠ x ∧ liveB v (k : Int) = false))
    case first =>
      cases b2
      · go_wp2_with fail
        go_meet
        exact ⟨y, A11.out.more (by omega), HY.out⟩
      · go_wp2_with fail
        refine (look_as 0 (by omega) A11.out).mono ?_
        rintro e w12 ⟨rfl, h3⟩
        have A12 := Aside0.mk h3
        clear h3 A11
        go_wp2_with fail
        refine (OP.out _ (Cells.below GL.out A12.out.below hz)).mono ?_
        rintro e w13 ⟨rfl, hb⟩
        have A13 := Aside0.mk (A12.out.next hb)
        clear hb A12
        go_wp2_with fail
        refine (write_as 0 (u : Int) (by omega) (by omega) A13.out).mono ?_
        rintro e w14 ⟨rfl, h3⟩
        have A14 := Aside0.mk (show AS W B2 ga gc 1 w14 [(u : Int)] 5 [(tb, tkv 0 (k : Int) 16777215 a z), (ub, tkv 0 (k : Int) 16777215 2 y)] from h3)
        clear h3 A13
        go_wp2_with fail
        go_meet
        exact ⟨u, A14.out, HU.out⟩
    case rest =>
      obtain ⟨v, hA, hv⟩ := hcut
      have A12 := Aside0.mk hA
      have HV := Aside0.mk hv
      clear hA hv A11 h2
      go_wp2_with fail
      refine (look_as 0 (by omega) A12.out).mono ?_
      rintro e w13 ⟨rfl, h3⟩
      have A13 := Aside0.mk h3
      clear h3 A12
      go_wp2_with fail
      go_loopg [12] 4 (fun gg v12 wx => ∃ (i : Nat) (a : Int) (z : Nat), gg + i = 4 ∧ v12 = .int .i64 (i : Int) ∧ AS W B2 ga gc 1 wx [(v : Int)] (5 + i) [(tb, tkv 0 (k : Int) 16777215 a z), (ub, tkv 0 (k : Int) 16777215 2 y)] ∧ LT x v i a z)
      case atStart => exact ⟨0, a, z, rfl, rfl, A13.out, HZ0.out.elim (fun h => Or.inr (Or.inl ⟨by omega, h⟩)) (fun h => Or.inr (Or.inr ⟨rfl, h.1, h.2⟩))⟩
      case round =>
        clear A13 HZ0 a z
        obtain ⟨i, a, z, hi, rfl, hA, hP⟩ := hrel
        have A14 := Aside0.mk hA
        have HP := Aside0.mk hP
        have HI := Aside0.mk hi
        clear hA hP
        by_cases hlt : i < 4
        · have d1 : decide ((i : Int) < 4) = true := decide_eq_true (by omega)
          have STP := Aside0.mk (step_lt k x y v i (5 + i) a z GL.out HV.out.1 (by omega) HV.out.2.1 HV.out.2.2 CL.out HP.out A14.out)
          have c0 := A14.out.head.cell 0
          have c1 := A14.out.head.cell 1
          have c2 := A14.out.head.cell 2
          have c3 := A14.out.head.cell 3
          have c4 := A14.out.head.cell 4
          simp only [tkv, List.getElem?_cons_zero, List.getElem?_cons_succ] at c0 c1 c2 c3 c4
          clear hi
          go_wp2_with fail
          refine STP.out.mono ?_
          rintro e w15 ⟨a2, z2, rfl, h6, hp6⟩
          have A15 := Aside0.mk h6
          have HP6 := Aside0.mk hp6
          clear h6 hp6 STP c0 c1 c2 c3 c4 A14
          go_wp2_with (first | ((with_reducible refine gate_store (t := 60) (p := 7) (v := .tmp 60) rfl ?_); refine wpList_store_row rfl 60 (.tmp 7) (.tmp 60) rfl tb ([.int .i64 0, .int .i64 (k : Int), .int .i64 16777215, .int .i64 a2, .int .u64 (z2 : Int)] : List Value).toArray rfl rfl 60 _ A15.out.head (by kernel_rfl) rfl (by kernel_rfl) ?_))
          have A16 := Aside0.mk (A15.out.row (vs' := tkv 0 (k : Int) 16777215 a2 z2) (fun q hq => by simp at hq; subst hq; exact HNE.out.symm))
          go_roundg (4 - (i + 1))
          case measure => have := HI.out; omega
          case rel => exact ⟨i + 1, a2, z2, by have := HI.out; omega, by go_num, A16.out, HP6.out⟩
        · have d1 : decide ((i : Int) < 4) = false := decide_eq_false (by omega)
          obtain rfl := done_lt k x v i a z (by omega) HP.out
          have S14 := Aside0.mk A14.out.swap2
          have c0 := S14.out.head.cell 0
          have c1 := S14.out.head.cell 1
          have c2 := S14.out.head.cell 2
          have c3 := S14.out.head.cell 3
          have c4 := S14.out.head.cell 4
          simp only [tkv, List.getElem?_cons_zero, List.getElem?_cons_succ] at c0 c1 c2 c3 c4
          have kb : ((v : Int) == (v : Int)) = true := by simp
          clear HP hi
          go_wp2_with fail
          refine (done_at 0 (k : Int) 16777215 2 (y : Int) 0 true _ (Or.inl ⟨rfl, rfl, rfl⟩)).mono ?_
          rintro e w15 ⟨rfl, hb⟩
          have A15 := Aside0.mk (A14.out.next hb)
          clear hb A14 S14 c0 c1 c2 c3 c4
          have c0 := A15.out.head.cell 0
          have c1 := A15.out.head.cell 1
          have c2 := A15.out.head.cell 2
          have c3 := A15.out.head.cell 3
          have c4 := A15.out.head.cell 4
          simp only [tkv, List.getElem?_cons_zero, List.getElem?_cons_succ] at c0 c1 c2 c3 c4
          go_wp2_with fail
          refine (done_at 0 (k : Int) 16777215 3 (z : Int) 5 true _ (Or.inr (Or.inl ⟨rfl, rfl, rfl⟩))).mono ?_
          rintro e w16 ⟨rfl, hb⟩
          have A16 := Aside0.mk (A15.out.next hb)
          clear hb A15 c0 c1 c2 c3 c4
          go_wp2_with fail
          refine (Settle.awake_calls _ (Cells.below GL.out A16.out.below hz)).mono ?_
          rintro e w17 ⟨rfl, hb⟩
          have A17 := Aside0.mk (A16.out.next hb)
          clear hb A16
          go_wp2_with fail
          refine (look_as 0 (by omega) A17.out).mono ?_
          rintro e w18 ⟨rfl, h11⟩
          have A18 := Aside0.mk h11
          clear h11 A17
          go_wp2_with fail
          go_ret
          exact ⟨rfl, A18.out.below⟩
theorem walk (a0 : Int) (a1 : Int) (W : World) (w0 : (Lit.int .i64 a0).wf = true) (w1 : (Lit.int .i64 a1).wf = true) (gl : LaidSlot.Cells W) :
    Calls Tryd.prog 10 #[.int .i64 a0, .int .i64 a1] W fun e W' => e = .returned (.bool true) ∧ Below W.heap.size W W' := by
  exact core a0 a1 (a0 % 65536 + 1).toNat _ _ W gl (by rw [i64_and65535]; omega) (by omega) rfl rfl
end Go.Proofs.YthonkcldddfpnaaDoor.walkSettleLate
