/- A turn that is another one, or does not go on, is not ended: the walk of SettleStale. -/
import Derived.Test.YthonkcldddfpnaaDoorSettleA
import Derived.Deep.CutBlock
namespace Go.Proofs.YthonkcldddfpnaaDoor.walkSettleStale
open Go.RowKit Go.Proofs.YthonkcldddfpnaaDoorW.PrintWords Go.Proofs.YthonkcldddfpnaaDoorW.PrintLast Go.Proofs.YthonkcldddfpnaaDoorW.PrintMore Go.Proofs.YthonkcldddfpnaaDoor.Aid Go.Proofs.YthonkcldddfpnaaDoor.Quiet Go.Proofs.YthonkcldddfpnaaDoor.Blk Go.Proofs.YthonkcldddfpnaaDoor.State Go.Proofs.YthonkcldddfpnaaDoor.Vals Go.Proofs.YthonkcldddfpnaaDoor.Arena Go.Proofs.YthonkcldddfpnaaDoor.SlotF Go.Proofs.YthonkcldddfpnaaDoor.Slot Go.Proofs.YthonkcldddfpnaaDoor.Settle
set_option linter.unusedVariables false
set_option linter.unusedSimpArgs false

/-- How the ending stands behind i steps. -/
def PH (lv : Bool) (x y : Nat) (i : Nat) (a : Int) (z v : Nat) : Prop :=
  (i = 0 ∧ a = 0 ∧ z = 0 ∧ v = x) ∨ (lv = true ∧ i = 1 ∧ a = 1 ∧ z = x ∧ v = x) ∨ (lv = true ∧ 2 ≤ i ∧ a = 2 ∧ z = y ∧ v = y) ∨ (lv = false ∧ 1 ≤ i ∧ a = 3 ∧ z = x ∧ v = x)
theorem step_ph {W : World} {B2 ga gc : Nat} {w : World} {ks : List (Nat × List Value)} (g : Int) (x y i k : Nat) (a : Int) (z v : Nat) (gl : LaidSlot.Cells W) (hx : x < 2 ^ 64) (hk : k ≤ 98)
    (CL : liveB x g = true → ∀ w, LaidSlot.Cells w → Calls Tryd.prog 29 #[.int .u64 (x : Int), .int .i64 16777215] w fun r w' => r = .returned (.int .u64 (y : Int)) ∧ Below w.heap.size w w')
    (hp : PH (liveB x g) x y i a z v) (h : AS W B2 ga gc 1 w [(v : Int)] k ks) :
    Calls Tryd.prog 33 #[.agg #[.int .i64 0, .int .i64 g, .int .i64 16777215, .int .i64 a, .int .u64 (z : Int)], .pointer (some ⟨ga, 0, none⟩)] w fun r w' => ∃ (a2 : Int) (z2 v2 : Nat), r = .returned (.agg #[.int .i64 0, .int .i64 g, .int .i64 16777215, .int .i64 a2, .int .u64 (z2 : Int)]) ∧ AS W B2 ga gc 1 w' [(v2 : Int)] (k + 1) ks ∧ PH (liveB x g) x y (i + 1) a2 z2 v2 := by
  rcases hp with ⟨rfl, rfl, rfl, rfl⟩ | ⟨hl, rfl, rfl, rfl, rfl⟩ | ⟨hl, hi, rfl, rfl, rfl⟩ | ⟨hl, hi, rfl, rfl, rfl⟩
  · refine (step_look 0 g 16777215 0 v gl (by omega) hk rfl hx _ rfl h).mono ?_
    rintro r w' ⟨h1, h2⟩
    refine ⟨_, v, v, h1, h2, ?_⟩
    cases hl : liveB v g
    · exact Or.inr (Or.inr (Or.inr ⟨rfl, by omega, rfl, rfl, rfl⟩))
    · exact Or.inr (Or.inl ⟨rfl, rfl, rfl, rfl, rfl⟩)
  · refine (step_swap 0 g 16777215 v y (CL hl) gl (by omega) hk rfl h).mono ?_
    rintro r w' ⟨h1, h2⟩
    exact ⟨2, y, y, h1, h2, Or.inr (Or.inr (Or.inl ⟨hl, by omega, rfl, rfl, rfl⟩))⟩
  · refine (step_stay2 0 g 16777215 v h gl).mono ?_
    rintro r w' ⟨h1, h2⟩
    exact ⟨2, v, v, h1, h2.more (by omega), Or.inr (Or.inr (Or.inl ⟨hl, by omega, rfl, rfl, rfl⟩))⟩
  · refine (step_stay3 0 g 16777215 v h gl).mono ?_
    rintro r w' ⟨h1, h2⟩
    exact ⟨3, v, v, h1, h2.more (by omega), Or.inr (Or.inr (Or.inr ⟨hl, by omega, rfl, rfl, rfl⟩))⟩
theorem close_any (x : Nat) (hx : x < 2 ^ 64) (g : Int) : ∃ y : Nat, liveB x g = true → ∀ w, LaidSlot.Cells w → Calls Tryd.prog 29 #[.int .u64 (x : Int), .int .i64 16777215] w fun r w' => r = .returned (.int .u64 (y : Int)) ∧ Below w.heap.size w w' := by
  by_cases h : stN x = 1 ∨ stN x = 2
  · obtain ⟨y, _, _, _, h2⟩ := Slot3.close_some x hx 16777215 16777215 (by kernel_rfl) h
    exact ⟨y, fun _ => h2⟩
  · exact ⟨0, fun hl => absurd (of_decide_eq_true hl).2 h⟩
theorem bool_beq (b : Bool) : (b == b) = true := by cases b <;> rfl
set_option maxHeartbeats 4000000 in
set_option maxRecDepth 100000 in
theorem core (x : Nat) (g : Int) (W : World) (gl : LaidSlot.Cells W) (hx : x < 2 ^ 64) :
    Calls Tryd.prog 9 #[.int .u64 (x : Int), .int .i64 g] W fun e W' => e = .returned (.bool true) ∧ Below W.heap.size W W' := by
  have hu60 := Tryd.underlying60
  have hz := Cells.size gl
  have GL := Aside0.mk gl
  have HX := Aside0.mk hx
  obtain ⟨y, hy⟩ := close_any x hx g
  have CL := Aside0.mk hy
  obtain ⟨lv, hlv⟩ : ∃ b, liveB x g = b := ⟨_, rfl⟩
  have HLV := Aside0.mk hlv
  clear gl hx hy hlv
  go_enter Tryd.func9, Tryd.ntmps9
  go_wp2_with fail
  refine (new_as 1 W _ (by omega) (Below.refl _ _)).mono ?_
  rintro e w1 ⟨B2, ga, gc, rfl, h1⟩
  have A1 := Aside0.mk (show AS W B2 ga gc 1 w1 [0] 0 [] from h1)
  clear h1
  go_wp2_with fail
  refine (write_as 0 (x : Int) (by omega) (by omega) A1.out).mono ?_
  rintro e w2 ⟨rfl, h2⟩
  have A2 := Aside0.mk (show AS W B2 ga gc 1 w2 [(x : Int)] 1 [] from h2)
  clear h2 A1
  go_wp2_with fail
  refine (task_new 0 g 16777215 _).mono ?_
  rintro e w3 ⟨rfl, hb⟩
  have A3 := Aside0.mk (A2.out.next hb)
  clear hb A2
  go_upto_region 4 with fail
  obtain ⟨tb, htb⟩ : ∃ tb, w3.heap.size = tb := ⟨_, rfl⟩
  have A4 := Aside0.mk (show AS W B2 ga gc 1 (w3.alloc (.cells #[.int .i64 0, .int .i64 g, .int .i64 16777215, .int .i64 0, .int .u64 0] 60)) [(x : Int)] 1 [(tb, tkv 0 g 16777215 0 (0 : Nat))] from by
    subst htb
    exact (A3.out.next ((Below.refl w3.heap.size w3).alloc (Nat.le_refl _) _)).add (heap_new _ _) A3.out.below.size)
  obtain ⟨w4, hw4⟩ : ∃ ww, w3.alloc (.cells #[.int .i64 0, .int .i64 g, .int .i64 16777215, .int .i64 0, .int .u64 0] 60) = ww := ⟨_, rfl⟩
  rw [hw4] at A4 ⊢
  try simp only [htb]
  clear hw4 htb A3
  go_wp2_with fail
  go_loopg [7] 3 (fun gg v7 wx => ∃ (i : Nat) (a : Int) (z v : Nat), gg + i = 3 ∧ v7 = .int .i64 (i : Int) ∧ AS W B2 ga gc 1 wx [(v : Int)] (1 + i) [(tb, tkv 0 g 16777215 a z)] ∧ PH lv x y i a z v)
  case atStart => exact ⟨0, 0, 0, x, rfl, rfl, A4.out, Or.inl ⟨rfl, rfl, rfl, rfl⟩⟩
  case round =>
    clear A4
    obtain ⟨i, a, z, v, hi, rfl, hA, hP⟩ := hrel
    have A5 := Aside0.mk hA
    have HP := Aside0.mk hP
    have HI := Aside0.mk hi
    have c0 := hA.head.cell 0
    have c1 := hA.head.cell 1
    have c2 := hA.head.cell 2
    have c3 := hA.head.cell 3
    have c4 := hA.head.cell 4
    simp only [tkv, List.getElem?_cons_zero, List.getElem?_cons_succ] at c0 c1 c2 c3 c4
    clear hA hP
    by_cases hlt : i < 3
    · have d1 : decide ((i : Int) < 3) = true := decide_eq_true (by omega)
      have STP := Aside0.mk (step_ph g x y i (1 + i) a z v GL.out HX.out (by omega) CL.out (HLV.out ▸ HP.out) A5.out)
      clear hi
      go_wp2_with fail
      refine STP.out.mono ?_
      rintro e w6 ⟨a2, z2, v2, rfl, h6, hp6⟩
      have A6 := Aside0.mk h6
      have HP6 := Aside0.mk (show PH lv x y (i + 1) a2 z2 v2 from HLV.out ▸ hp6)
      clear h6 hp6 STP c0 c1 c2 c3 c4 A5
      go_wp2_with (first | ((with_reducible refine gate_store (t := 60) (p := 6) (v := .tmp 25) rfl ?_); refine wpList_store_row rfl 60 (.tmp 6) (.tmp 25) rfl tb ([.int .i64 0, .int .i64 g, .int .i64 16777215, .int .i64 a2, .int .u64 (z2 : Int)] : List Value).toArray rfl rfl 60 _ A6.out.head (by kernel_rfl) rfl (by kernel_rfl) ?_))
      have A7 := Aside0.mk (A6.out.row (vs' := tkv 0 g 16777215 a2 z2) (fun q hq => by cases hq))
      go_roundg (3 - (i + 1))
      case measure => have := HI.out; omega
      case rel => exact ⟨i + 1, a2, z2, v2, by have := HI.out; omega, by go_num, A7.out, HP6.out⟩
    · have d1 : decide ((i : Int) < 3) = false := decide_eq_false (by omega)
      have LV := Aside0.mk (fun (w : World) (h : LaidSlot.Cells w) => (show Calls Tryd.prog 27 #[.int .u64 (x : Int), .int .i64 g] w fun r w' => r = .returned (.bool lv) ∧ Below w.heap.size w w' from HLV.out ▸ live_calls x HX.out g w h))
      rcases HP.out with ⟨h, _⟩ | ⟨_, h, _⟩ | ⟨rfl, hi2, rfl, rfl, rfl⟩ | ⟨rfl, hi2, rfl, rfl, rfl⟩
      · omega
      · omega
      · clear HP hi hi2
        go_wp2_with fail
        refine (done_at 0 g 16777215 2 (v : Int) 0 true _ (Or.inl ⟨rfl, rfl, rfl⟩)).mono ?_
        rintro e w6 ⟨rfl, hb⟩
        have A6 := Aside0.mk (A5.out.next hb)
        clear hb A5 c0 c1 c2 c3 c4
        go_wp2_with fail
        refine (LV.out _ (Cells.below GL.out A6.out.below hz)).mono ?_
        rintro e w7 ⟨rfl, hb⟩
        have A7 := Aside0.mk (A6.out.next hb)
        clear hb A6
        go_wp2_with fail
        refine (task_new 0 g 5 _).mono ?_
        rintro e w8 ⟨rfl, hb⟩
        have A8 := Aside0.mk (A7.out.next hb)
        clear hb A7
        go_wp2_with fail
        refine (done_at 0 g 5 0 0 0 false _ (Or.inr (Or.inr (Or.inl ⟨rfl, rfl, rfl⟩)))).mono ?_
        rintro e w9 ⟨rfl, hb⟩
        have A9 := Aside0.mk (A8.out.next hb)
        clear hb A8
        go_wp2_with fail
        refine (Settle.awake_calls _ (Cells.below GL.out A9.out.below hz)).mono ?_
        rintro e w10 ⟨rfl, hb⟩
        have A10 := Aside0.mk (A9.out.next hb)
        clear hb A9
        go_wp2_with fail
        go_ret
        exact ⟨rfl, A10.out.below⟩
      · clear HP hi hi2
        have kb : ((v : Int) == (v : Int)) = true := by simp
        go_wp2_with fail
        refine (done_at 0 g 16777215 3 (v : Int) 5 true _ (Or.inr (Or.inl ⟨rfl, rfl, rfl⟩))).mono ?_
        rintro e w6 ⟨rfl, hb⟩
        have A6 := Aside0.mk (A5.out.next hb)
        clear hb A5 c0 c1 c2 c3 c4
        go_wp2_with fail
        refine (LV.out _ (Cells.below GL.out A6.out.below hz)).mono ?_
        rintro e w7 ⟨rfl, hb⟩
        have A7 := Aside0.mk (A6.out.next hb)
        clear hb A6
        go_wp2_with fail
        refine (task_new 0 g 5 _).mono ?_
        rintro e w8 ⟨rfl, hb⟩
        have A8 := Aside0.mk (A7.out.next hb)
        clear hb A7
        go_wp2_with fail
        refine (done_at 0 g 5 0 0 0 false _ (Or.inr (Or.inr (Or.inl ⟨rfl, rfl, rfl⟩)))).mono ?_
        rintro e w9 ⟨rfl, hb⟩
        have A9 := Aside0.mk (A8.out.next hb)
        clear hb A8
        go_wp2_with fail
        refine (Settle.awake_calls _ (Cells.below GL.out A9.out.below hz)).mono ?_
        rintro e w10 ⟨rfl, hb⟩
        have A10 := Aside0.mk (A9.out.next hb)
        clear hb A9
        go_wp2_with fail
        refine (look_as 0 (by omega) A10.out).mono ?_
        rintro e w11 ⟨rfl, h11⟩
        have A11 := Aside0.mk h11
        clear h11 A10
        go_wp2_with fail
        go_ret
        exact ⟨rfl, A11.out.below⟩
theorem walk (a0 : Int) (a1 : Int) (W : World) (w0 : (Lit.int .u64 a0).wf = true) (w1 : (Lit.int .i64 a1).wf = true) (gl : LaidSlot.Cells W) :
    Calls Tryd.prog 9 #[.int .u64 a0, .int .i64 a1] W fun e W' => e = .returned (.bool true) ∧ Below W.heap.size W W' := by
  have hb : 0 ≤ a0 ∧ a0 < 2 ^ 64 := by
    simp [Lit.wf, IntKind.min, IntKind.max, IntKind.bits, IntKind.signed] at w0
    omega
  obtain ⟨x, rfl⟩ := Int.eq_ofNat_of_zero_le hb.1
  exact core x a1 W gl (by omega)
end Go.Proofs.YthonkcldddfpnaaDoor.walkSettleStale
