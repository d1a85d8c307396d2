/- A slot's word tells its turn and how it stands: the walk of SlotWords. -/
import Derived.Test.YthonkcldddfpnaaDoorSlotAwake
namespace Go.Proofs.YthonkcldddfpnaaDoor.walkSlotWords
open Go.RowKit Go.Proofs.YthonkcldddfpnaaDoor.PSlotWords Go.Proofs.YthonkcldddfpnaaDoorW.PrintWords Go.Proofs.YthonkcldddfpnaaDoorW.PrintLast Go.Proofs.YthonkcldddfpnaaDoorW.PrintMore Go.Proofs.YthonkcldddfpnaaDoor.Aid Go.Proofs.YthonkcldddfpnaaDoor.Quiet Go.Proofs.YthonkcldddfpnaaDoor.SlotF Go.Proofs.YthonkcldddfpnaaDoor.Slot
set_option linter.unusedVariables false
attribute [local go_sem] max2_int min2_int max_two min_two

set_option maxHeartbeats 4000000 in
set_option maxRecDepth 100000 in
theorem c1 (g s g0 s0 : Int) (gm sm y : Nat) (W : World) (gl : LaidSlot.Cells W) (hg : mx g 0 = gm) (hs : mx s 0 = sm) (hgb : gm < 2 ^ 63) (hsb : sm < 2 ^ 63) (hy : y < 2 ^ 64)
    (hg0 : mn gm 16777215 = (min gm 16777215 : Nat)) (hs0 : mn sm 3 = (min sm 3 : Nat))
    (d1 : ((genN y : Int) == g) = true) (d2 : ((stN y : Int) == 1) = true) (hl : liveB y g = true)
    (e1 : (y : Int).tmod 16777216 = (genN y : Int)) (e2 : ((y : Int).tdiv 16777216).tmod 4 = (stN y : Int)) :
    Calls Tryd.prog 6 #[.int .i64 g, .int .i64 s, .int .u64 (y : Int)] W fun e W' => e = .returned (.bool true) ∧ Below W.heap.size W W' := by
  have hz := Cells.size gl
  have GL := Aside0.mk gl
  have HB := Aside0.mk (Below.refl W.heap.size W)
  have HG := Aside0.mk hg
  have HS := Aside0.mk hs
  have HGB := Aside0.mk hgb
  have HSB := Aside0.mk hsb
  have HY := Aside0.mk hy
  have hg' : (if g < 0 then 0 else g) = (gm : Int) := hg
  have hs' : (if s < 0 then 0 else s) = (sm : Int) := hs
  have hg0' : (if 16777215 < (gm : Int) then 16777215 else (gm : Int)) = (min gm 16777215 : Nat) := hg0
  have hs0' : (if 3 < (sm : Int) then 3 else (sm : Int)) = (min sm 3 : Nat) := hs0
  have hgn := genN_lt y
  have hsn := stN_lt y
  obtain ⟨q, hq⟩ : ∃ q, (y : Int).tdiv 16777216 = q := ⟨_, rfl⟩
  rw [hq] at e2
  have wq : IntKind.u64.wrap q = q := by
    rw [Int.tdiv_eq_ediv_of_nonneg (by omega)] at hq
    exact wrap_u64_in _ (by omega) (by omega)
  have wq2 : wrap64 (stN y : Int) = (stN y : Int) := by unfold wrap64; omega
  generalize hG : min gm 16777215 = G at *
  generalize hS : min sm 3 = S at *
  clear gl hg hs hgb hsb hy hg0 hs0
  go_enter Tryd.func6, Tryd.ntmps6
  go_wp2_with (first
    | (go_at_call 23; with_reducible refine (word_calls g s gm sm _ (Cells.below GL.out HB.out hz) HG.out HS.out HGB.out HSB.out).mono ?_; rintro e wn ⟨rfl, hb⟩; have HB := Aside0.mk (HB.out.trans (hb.mono HB.out.size)); clear hb)
    | (go_at_call 24; with_reducible refine (awake_calls _ (Cells.below GL.out HB.out hz)).mono ?_; rintro e wn ⟨rfl, hb⟩; have HB := Aside0.mk (HB.out.trans (hb.mono HB.out.size)); clear hb)
    | (go_at_call 25; with_reducible refine (gen_calls y HY.out _ (Cells.below GL.out HB.out hz)).mono ?_; rintro e wn ⟨rfl, hb⟩; have HB := Aside0.mk (HB.out.trans (hb.mono HB.out.size)); clear hb)
    | (go_at_call 25; with_reducible refine (gen_calls _ (wordN_lt _ _) _ (Cells.below GL.out HB.out hz)).mono ?_; rintro e wn ⟨rfl, hb⟩; rw [wordN_gen, hG]; have HB := Aside0.mk (HB.out.trans (hb.mono HB.out.size)); clear hb)
    | (go_at_call 26; with_reducible refine (st_calls y HY.out _ (Cells.below GL.out HB.out hz)).mono ?_; rintro e wn ⟨rfl, hb⟩; have HB := Aside0.mk (HB.out.trans (hb.mono HB.out.size)); clear hb)
    | (go_at_call 26; with_reducible refine (st_calls _ (wordN_lt _ _) _ (Cells.below GL.out HB.out hz)).mono ?_; rintro e wn ⟨rfl, hb⟩; rw [wordN_st, hS]; have HB := Aside0.mk (HB.out.trans (hb.mono HB.out.size)); clear hb)
    | (go_at_call 27; with_reducible refine (live_calls y HY.out g _ (Cells.below GL.out HB.out hz)).mono ?_; rintro e wn ⟨rfl, hb⟩; rw [hl]; have HB := Aside0.mk (HB.out.trans (hb.mono HB.out.size)); clear hb))
  go_ret
  exact ⟨rfl, HB.out⟩

set_option maxHeartbeats 4000000 in
set_option maxRecDepth 100000 in
theorem c2 (g s g0 s0 : Int) (gm sm y : Nat) (W : World) (gl : LaidSlot.Cells W) (hg : mx g 0 = gm) (hs : mx s 0 = sm) (hgb : gm < 2 ^ 63) (hsb : sm < 2 ^ 63) (hy : y < 2 ^ 64)
    (hg0 : mn gm 16777215 = (min gm 16777215 : Nat)) (hs0 : mn sm 3 = (min sm 3 : Nat))
    (d1 : ((genN y : Int) == g) = true) (d2 : ((stN y : Int) == 1) = false) (d3 : ((stN y : Int) == 2) = true) (hl : liveB y g = true)
    (e1 : (y : Int).tmod 16777216 = (genN y : Int)) (e2 : ((y : Int).tdiv 16777216).tmod 4 = (stN y : Int)) :
    Calls Tryd.prog 6 #[.int .i64 g, .int .i64 s, .int .u64 (y : Int)] W fun e W' => e = .returned (.bool true) ∧ Below W.heap.size W W' := by
  have hz := Cells.size gl
  have GL := Aside0.mk gl
  have HB := Aside0.mk (Below.refl W.heap.size W)
  have HG := Aside0.mk hg
  have HS := Aside0.mk hs
  have HGB := Aside0.mk hgb
  have HSB := Aside0.mk hsb
  have HY := Aside0.mk hy
  have hg' : (if g < 0 then 0 else g) = (gm : Int) := hg
  have hs' : (if s < 0 then 0 else s) = (sm : Int) := hs
  have hg0' : (if 16777215 < (gm : Int) then 16777215 else (gm : Int)) = (min gm 16777215 : Nat) := hg0
  have hs0' : (if 3 < (sm : Int) then 3 else (sm : Int)) = (min sm 3 : Nat) := hs0
  have hgn := genN_lt y
  have hsn := stN_lt y
  obtain ⟨q, hq⟩ : ∃ q, (y : Int).tdiv 16777216 = q := ⟨_, rfl⟩
  rw [hq] at e2
  have wq : IntKind.u64.wrap q = q := by
    rw [Int.tdiv_eq_ediv_of_nonneg (by omega)] at hq
    exact wrap_u64_in _ (by omega) (by omega)
  have wq2 : wrap64 (stN y : Int) = (stN y : Int) := by unfold wrap64; omega
  generalize hG : min gm 16777215 = G at *
  generalize hS : min sm 3 = S at *
  clear gl hg hs hgb hsb hy hg0 hs0
  go_enter Tryd.func6, Tryd.ntmps6
  go_wp2_with (first
    | (go_at_call 23; with_reducible refine (word_calls g s gm sm _ (Cells.below GL.out HB.out hz) HG.out HS.out HGB.out HSB.out).mono ?_; rintro e wn ⟨rfl, hb⟩; have HB := Aside0.mk (HB.out.trans (hb.mono HB.out.size)); clear hb)
    | (go_at_call 24; with_reducible refine (awake_calls _ (Cells.below GL.out HB.out hz)).mono ?_; rintro e wn ⟨rfl, hb⟩; have HB := Aside0.mk (HB.out.trans (hb.mono HB.out.size)); clear hb)
    | (go_at_call 25; with_reducible refine (gen_calls y HY.out _ (Cells.below GL.out HB.out hz)).mono ?_; rintro e wn ⟨rfl, hb⟩; have HB := Aside0.mk (HB.out.trans (hb.mono HB.out.size)); clear hb)
    | (go_at_call 25; with_reducible refine (gen_calls _ (wordN_lt _ _) _ (Cells.below GL.out HB.out hz)).mono ?_; rintro e wn ⟨rfl, hb⟩; rw [wordN_gen, hG]; have HB := Aside0.mk (HB.out.trans (hb.mono HB.out.size)); clear hb)
    | (go_at_call 26; with_reducible refine (st_calls y HY.out _ (Cells.below GL.out HB.out hz)).mono ?_; rintro e wn ⟨rfl, hb⟩; have HB := Aside0.mk (HB.out.trans (hb.mono HB.out.size)); clear hb)
    | (go_at_call 26; with_reducible refine (st_calls _ (wordN_lt _ _) _ (Cells.below GL.out HB.out hz)).mono ?_; rintro e wn ⟨rfl, hb⟩; rw [wordN_st, hS]; have HB := Aside0.mk (HB.out.trans (hb.mono HB.out.size)); clear hb)
    | (go_at_call 27; with_reducible refine (live_calls y HY.out g _ (Cells.below GL.out HB.out hz)).mono ?_; rintro e wn ⟨rfl, hb⟩; rw [hl]; have HB := Aside0.mk (HB.out.trans (hb.mono HB.out.size)); clear hb))
  go_ret
  exact ⟨rfl, HB.out⟩

set_option maxHeartbeats 4000000 in
set_option maxRecDepth 100000 in
theorem c3 (g s g0 s0 : Int) (gm sm y : Nat) (W : World) (gl : LaidSlot.Cells W) (hg : mx g 0 = gm) (hs : mx s 0 = sm) (hgb : gm < 2 ^ 63) (hsb : sm < 2 ^ 63) (hy : y < 2 ^ 64)
    (hg0 : mn gm 16777215 = (min gm 16777215 : Nat)) (hs0 : mn sm 3 = (min sm 3 : Nat))
    (d1 : ((genN y : Int) == g) = true) (d2 : ((stN y : Int) == 1) = false) (d3 : ((stN y : Int) == 2) = false) (hl : liveB y g = false)
    (e1 : (y : Int).tmod 16777216 = (genN y : Int)) (e2 : ((y : Int).tdiv 16777216).tmod 4 = (stN y : Int)) :
    Calls Tryd.prog 6 #[.int .i64 g, .int .i64 s, .int .u64 (y : Int)] W fun e W' => e = .returned (.bool true) ∧ Below W.heap.size W W' := by
  have hz := Cells.size gl
  have GL := Aside0.mk gl
  have HB := Aside0.mk (Below.refl W.heap.size W)
  have HG := Aside0.mk hg
  have HS := Aside0.mk hs
  have HGB := Aside0.mk hgb
  have HSB := Aside0.mk hsb
  have HY := Aside0.mk hy
  have hg' : (if g < 0 then 0 else g) = (gm : Int) := hg
  have hs' : (if s < 0 then 0 else s) = (sm : Int) := hs
  have hg0' : (if 16777215 < (gm : Int) then 16777215 else (gm : Int)) = (min gm 16777215 : Nat) := hg0
  have hs0' : (if 3 < (sm : Int) then 3 else (sm : Int)) = (min sm 3 : Nat) := hs0
  have hgn := genN_lt y
  have hsn := stN_lt y
  obtain ⟨q, hq⟩ : ∃ q, (y : Int).tdiv 16777216 = q := ⟨_, rfl⟩
  rw [hq] at e2
  have wq : IntKind.u64.wrap q = q := by
    rw [Int.tdiv_eq_ediv_of_nonneg (by omega)] at hq
    exact wrap_u64_in _ (by omega) (by omega)
  have wq2 : wrap64 (stN y : Int) = (stN y : Int) := by unfold wrap64; omega
  generalize hG : min gm 16777215 = G at *
  generalize hS : min sm 3 = S at *
  clear gl hg hs hgb hsb hy hg0 hs0
  go_enter Tryd.func6, Tryd.ntmps6
  go_wp2_with (first
    | (go_at_call 23; with_reducible refine (word_calls g s gm sm _ (Cells.below GL.out HB.out hz) HG.out HS.out HGB.out HSB.out).mono ?_; rintro e wn ⟨rfl, hb⟩; have HB := Aside0.mk (HB.out.trans (hb.mono HB.out.size)); clear hb)
    | (go_at_call 24; with_reducible refine (awake_calls _ (Cells.below GL.out HB.out hz)).mono ?_; rintro e wn ⟨rfl, hb⟩; have HB := Aside0.mk (HB.out.trans (hb.mono HB.out.size)); clear hb)
    | (go_at_call 25; with_reducible refine (gen_calls y HY.out _ (Cells.below GL.out HB.out hz)).mono ?_; rintro e wn ⟨rfl, hb⟩; have HB := Aside0.mk (HB.out.trans (hb.mono HB.out.size)); clear hb)
    | (go_at_call 25; with_reducible refine (gen_calls _ (wordN_lt _ _) _ (Cells.below GL.out HB.out hz)).mono ?_; rintro e wn ⟨rfl, hb⟩; rw [wordN_gen, hG]; have HB := Aside0.mk (HB.out.trans (hb.mono HB.out.size)); clear hb)
    | (go_at_call 26; with_reducible refine (st_calls y HY.out _ (Cells.below GL.out HB.out hz)).mono ?_; rintro e wn ⟨rfl, hb⟩; have HB := Aside0.mk (HB.out.trans (hb.mono HB.out.size)); clear hb)
    | (go_at_call 26; with_reducible refine (st_calls _ (wordN_lt _ _) _ (Cells.below GL.out HB.out hz)).mono ?_; rintro e wn ⟨rfl, hb⟩; rw [wordN_st, hS]; have HB := Aside0.mk (HB.out.trans (hb.mono HB.out.size)); clear hb)
    | (go_at_call 27; with_reducible refine (live_calls y HY.out g _ (Cells.below GL.out HB.out hz)).mono ?_; rintro e wn ⟨rfl, hb⟩; rw [hl]; have HB := Aside0.mk (HB.out.trans (hb.mono HB.out.size)); clear hb))
  go_ret
  exact ⟨rfl, HB.out⟩

set_option maxHeartbeats 4000000 in
set_option maxRecDepth 100000 in
theorem c4 (g s g0 s0 : Int) (gm sm y : Nat) (W : World) (gl : LaidSlot.Cells W) (hg : mx g 0 = gm) (hs : mx s 0 = sm) (hgb : gm < 2 ^ 63) (hsb : sm < 2 ^ 63) (hy : y < 2 ^ 64)
    (hg0 : mn gm 16777215 = (min gm 16777215 : Nat)) (hs0 : mn sm 3 = (min sm 3 : Nat))
    (d1 : ((genN y : Int) == g) = false) (hl : liveB y g = false)
    (e1 : (y : Int).tmod 16777216 = (genN y : Int)) (e2 : ((y : Int).tdiv 16777216).tmod 4 = (stN y : Int)) :
    Calls Tryd.prog 6 #[.int .i64 g, .int .i64 s, .int .u64 (y : Int)] W fun e W' => e = .returned (.bool true) ∧ Below W.heap.size W W' := by
  have hz := Cells.size gl
  have GL := Aside0.mk gl
  have HB := Aside0.mk (Below.refl W.heap.size W)
  have HG := Aside0.mk hg
  have HS := Aside0.mk hs
  have HGB := Aside0.mk hgb
  have HSB := Aside0.mk hsb
  have HY := Aside0.mk hy
  have hg' : (if g < 0 then 0 else g) = (gm : Int) := hg
  have hs' : (if s < 0 then 0 else s) = (sm : Int) := hs
  have hg0' : (if 16777215 < (gm : Int) then 16777215 else (gm : Int)) = (min gm 16777215 : Nat) := hg0
  have hs0' : (if 3 < (sm : Int) then 3 else (sm : Int)) = (min sm 3 : Nat) := hs0
  have hgn := genN_lt y
  have hsn := stN_lt y
  obtain ⟨q, hq⟩ : ∃ q, (y : Int).tdiv 16777216 = q := ⟨_, rfl⟩
  rw [hq] at e2
  have wq : IntKind.u64.wrap q = q := by
    rw [Int.tdiv_eq_ediv_of_nonneg (by omega)] at hq
    exact wrap_u64_in _ (by omega) (by omega)
  have wq2 : wrap64 (stN y : Int) = (stN y : Int) := by unfold wrap64; omega
  generalize hG : min gm 16777215 = G at *
  generalize hS : min sm 3 = S at *
  clear gl hg hs hgb hsb hy hg0 hs0
  go_enter Tryd.func6, Tryd.ntmps6
  go_wp2_with (first
    | (go_at_call 23; with_reducible refine (word_calls g s gm sm _ (Cells.below GL.out HB.out hz) HG.out HS.out HGB.out HSB.out).mono ?_; rintro e wn ⟨rfl, hb⟩; have HB := Aside0.mk (HB.out.trans (hb.mono HB.out.size)); clear hb)
    | (go_at_call 24; with_reducible refine (awake_calls _ (Cells.below GL.out HB.out hz)).mono ?_; rintro e wn ⟨rfl, hb⟩; have HB := Aside0.mk (HB.out.trans (hb.mono HB.out.size)); clear hb)
    | (go_at_call 25; with_reducible refine (gen_calls y HY.out _ (Cells.below GL.out HB.out hz)).mono ?_; rintro e wn ⟨rfl, hb⟩; have HB := Aside0.mk (HB.out.trans (hb.mono HB.out.size)); clear hb)
    | (go_at_call 25; with_reducible refine (gen_calls _ (wordN_lt _ _) _ (Cells.below GL.out HB.out hz)).mono ?_; rintro e wn ⟨rfl, hb⟩; rw [wordN_gen, hG]; have HB := Aside0.mk (HB.out.trans (hb.mono HB.out.size)); clear hb)
    | (go_at_call 26; with_reducible refine (st_calls y HY.out _ (Cells.below GL.out HB.out hz)).mono ?_; rintro e wn ⟨rfl, hb⟩; have HB := Aside0.mk (HB.out.trans (hb.mono HB.out.size)); clear hb)
    | (go_at_call 26; with_reducible refine (st_calls _ (wordN_lt _ _) _ (Cells.below GL.out HB.out hz)).mono ?_; rintro e wn ⟨rfl, hb⟩; rw [wordN_st, hS]; have HB := Aside0.mk (HB.out.trans (hb.mono HB.out.size)); clear hb)
    | (go_at_call 27; with_reducible refine (live_calls y HY.out g _ (Cells.below GL.out HB.out hz)).mono ?_; rintro e wn ⟨rfl, hb⟩; rw [hl]; have HB := Aside0.mk (HB.out.trans (hb.mono HB.out.size)); clear hb))
  go_ret
  exact ⟨rfl, HB.out⟩


theorem walk (a0 : Int) (a1 : Int) (a2 : Int) (W : World) (w0 : (Lit.int .i64 a0).wf = true) (w1 : (Lit.int .i64 a1).wf = true) (w2 : (Lit.int .u64 a2).wf = true) (gl : LaidSlot.Cells W) :
    Calls Tryd.prog 6 #[.int .i64 a0, .int .i64 a1, .int .u64 a2] W fun e W' => e = .returned (.bool true) ∧ Below W.heap.size W W' := by
  simp [Lit.wf, IntKind.min, IntKind.max, IntKind.bits, IntKind.signed] at w0 w1 w2
  obtain ⟨y, rfl⟩ := Int.eq_ofNat_of_zero_le (show 0 ≤ a2 by omega)
  have hy : y < 2 ^ 64 := by omega
  have m1 : mx a0 0 = (mx a0 0).toNat := by unfold mx; split <;> omega
  have m2 : mx a1 0 = (mx a1 0).toNat := by unfold mx; split <;> omega
  have m3 : (mx a0 0).toNat < 2 ^ 63 := by unfold mx; split <;> omega
  have m4 : (mx a1 0).toNat < 2 ^ 63 := by unfold mx; split <;> omega
  have n1 : mn ((mx a0 0).toNat : Int) 16777215 = (min (mx a0 0).toNat 16777215 : Nat) := by unfold mn; split <;> omega
  have n2 : mn ((mx a1 0).toNat : Int) 3 = (min (mx a1 0).toNat 3 : Nat) := by unfold mn; split <;> omega
  have e1 : (y : Int).tmod 16777216 = (genN y : Int) := by unfold genN; rw [Int.tmod_eq_emod_of_nonneg (by omega)]; omega
  have e2 : ((y : Int).tdiv 16777216).tmod 4 = (stN y : Int) := by unfold stN; rw [Int.tdiv_eq_ediv_of_nonneg (by omega), Int.tmod_eq_emod_of_nonneg (by omega)]; omega
  by_cases h1 : (genN y : Int) = a0
  · have d1 : ((genN y : Int) == a0) = true := by rw [beq_iff_eq]; exact h1
    by_cases h2 : stN y = 1
    · exact c1 a0 a1 0 0 _ _ y W gl m1 m2 m3 m4 hy n1 n2 d1 (by rw [h2]; rfl) (decide_eq_true ⟨h1, Or.inl h2⟩) e1 e2
    · have d2 : ((stN y : Int) == 1) = false := by rw [beq_eq_false_iff_ne]; omega
      by_cases h3 : stN y = 2
      · exact c2 a0 a1 0 0 _ _ y W gl m1 m2 m3 m4 hy n1 n2 d1 d2 (by rw [h3]; rfl) (decide_eq_true ⟨h1, Or.inr h3⟩) e1 e2
      · exact c3 a0 a1 0 0 _ _ y W gl m1 m2 m3 m4 hy n1 n2 d1 d2 (by rw [beq_eq_false_iff_ne]; omega) (decide_eq_false (by rintro ⟨_, h | h⟩ <;> contradiction)) e1 e2
  · exact c4 a0 a1 0 0 _ _ y W gl m1 m2 m3 m4 hy n1 n2 (by rw [beq_eq_false_iff_ne]; exact h1) (decide_eq_false (by rintro ⟨h, _⟩; contradiction)) e1 e2
end Go.Proofs.YthonkcldddfpnaaDoor.walkSlotWords
