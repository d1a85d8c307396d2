/- A table's own small trial; which slots are live. -/
import Derived.Test.YthonkcldddfpnaaDoorTable2
import Derived.Test.YthonkcldddfpnaaDoorSettleA
import Derived.Deep.CutBlock
namespace Go.Proofs.YthonkcldddfpnaaDoor.Table
open Go.RowKit Go.Proofs.YthonkcldddfpnaaDoorW.PrintWords Go.Proofs.YthonkcldddfpnaaDoorW.PrintLast Go.Proofs.YthonkcldddfpnaaDoorW.PrintMore Go.Proofs.YthonkcldddfpnaaDoor.Aid Go.Proofs.YthonkcldddfpnaaDoor.Quiet Go.Proofs.YthonkcldddfpnaaDoor.Blk Go.Proofs.YthonkcldddfpnaaDoor.State Go.Proofs.YthonkcldddfpnaaDoor.Vals Go.Proofs.YthonkcldddfpnaaDoor.SlotF Go.Proofs.YthonkcldddfpnaaDoor.Free
set_option linter.unusedVariables false
set_option linter.unusedSimpArgs false

set_option maxHeartbeats 2000000 in
theorem awake_calls (W : World) (gl : LaidSlot.Cells W) : Calls Tryd.prog 42 #[] W fun r w' => r = .returned (.bool true) ∧ Below W.heap.size W w' := by
  have hu70 := Tryd.underlying70
  have hz := Slot.Cells.size gl
  have GL := Aside0.mk gl
  clear gl
  have hx := wordN_lt 1 0
  have hxs : stN (wordN 1 0) = 0 := wordN_st 1 0
  have WC := Aside0.mk (fun (w : World) (g : LaidSlot.Cells w) => Slot.word_calls 1 0 1 0 w g (by kernel_rfl) (by kernel_rfl) (by omega) (by omega))
  generalize wordN 1 0 = x at hx hxs WC
  have HX := Aside0.mk (And.intro hx hxs)
  clear hx hxs
  go_enter Tryd.func42, Tryd.ntmps42
  go_wp2_with fail
  refine (new_at 3 5 2 W (by kernel_rfl) (by omega) (by omega)).mono ?_
  rintro e w1 ⟨t, f, fl, fh, rfl, hT, hge, hb⟩
  have H1 := Aside0.mk (show Tb w1 t f fl fh 3 5 2 [0, 1] (List.replicate 16 false) 0 from hT)
  have B1 := Aside0.mk hb
  have HS := Aside0.mk (show ∀ x ∈ [t, f, fl, fh], W.heap.size ≤ x by intro x hx; simp at hx; omega)
  clear hT hge hb
  go_wp2_with fail
  refine (pick_some 0 H1.out).mono ?_
  rintro e w2 ⟨rfl, h1, h2⟩
  have H2 := Aside0.mk h1
  have B2 := Aside0.mk (h2.below B1.out HS.out B1.out.size)
  clear h1 h2 H1 B1
  go_wp2_with fail
  refine (cell_in 0 (by omega) H2.out).mono ?_
  rintro e w3 ⟨rfl, hb⟩
  have H3 := Aside0.mk (H2.out.below' hb)
  have B3 := Aside0.mk (B2.out.trans (hb.mono B2.out.size))
  clear hb H2 B2
  go_wp2_with fail
  refine (free_at H3.out).mono ?_
  rintro e w4 ⟨rfl, hb⟩
  have H4 := Aside0.mk (H3.out.below' hb)
  have B4 := Aside0.mk (B3.out.trans (hb.mono B3.out.size))
  clear hb H3 B3
  go_wp2_with fail
  refine (WC.out _ (Slot.Cells.below GL.out B4.out hz)).mono ?_
  rintro e w5 ⟨rfl, hb⟩
  have H5 := Aside0.mk (H4.out.below' hb)
  have B5 := Aside0.mk (B4.out.trans (hb.mono B4.out.size))
  clear hb H4 B4
  go_wp2_with fail
  refine (back_free 0 x HX.out.1 (Slot.Cells.below GL.out B5.out hz) (by omega) (by decide) HX.out.2 (by decide) H5.out).mono ?_
  rintro e w6 ⟨rfl, h1, h2⟩
  have H6 := Aside0.mk h1
  have B6 := Aside0.mk (h2.below B5.out HS.out B5.out.size)
  clear h1 h2 H5 B5
  go_wp2_with fail
  refine (free_at H6.out).mono ?_
  rintro e w7 ⟨rfl, hb⟩
  have H7 := Aside0.mk (H6.out.below' hb)
  have B7 := Aside0.mk (B6.out.trans (hb.mono B6.out.size))
  clear hb H6 B6
  go_wp2_with fail
  refine (most_at H7.out).mono ?_
  rintro e w8 ⟨rfl, hb⟩
  have H8 := Aside0.mk (H7.out.below' hb)
  have B8 := Aside0.mk (B7.out.trans (hb.mono B7.out.size))
  clear hb H7 B7
  go_wp2_with fail
  go_ret
  exact ⟨rfl, B8.out⟩
/-- How many of the first j are so. -/
def cntB (L : Nat → Bool) (j : Nat) : Nat := (List.range j).countP L
theorem cntB_succ (L : Nat → Bool) (j : Nat) : cntB L (j + 1) = cntB L j + (if L j then 1 else 0) := by
  unfold cntB
  rw [List.range_succ, List.countP_append]
  simp [List.countP_cons]
theorem cntB_le (L : Nat → Bool) (j : Nat) : cntB L j ≤ j := by
  unfold cntB
  exact Nat.le_trans List.countP_le_length (by simp)
set_option maxHeartbeats 2000000 in
set_option maxRecDepth 100000 in
theorem live_at {W : World} {B2 ga gc n kk : Nat} {w : World} {vals : List Int} {ks : List (Nat × List Value)} {t f fl fh k : Nat} {gens ret : Int} {q : List Nat} {out : List Bool} (bN : Nat) (ws : Nat → Nat) (L : Nat → Bool)
    (hT : Tb W t f fl fh (bN : Int) gens k q out ret) (h : Settle.AS W B2 ga gc n w vals kk ks) (gl : LaidSlot.Cells W) (hn : bN + k ≤ n) (hv : ∀ i, i < k → ws i < 2 ^ 64 ∧ vals[bN + i]?.getD 0 = (ws i : Int) ∧ decide (stN (ws i) = 1 ∨ stN (ws i) = 2) = L i) :
    Calls Tryd.prog 46 #[.pointer (some ⟨t, 0, none⟩), .pointer (some ⟨ga, 0, none⟩)] w fun r w' => r = .returned (.int .i64 (cntB L k : Int)) ∧ Below w.heap.size w w' := by
  have hz := Slot.Cells.size gl
  have GL := Aside0.mk gl
  have HT := Aside0.mk hT
  have H := Aside0.mk h
  have HV := Aside0.mk hv
  have HN := Aside0.mk hn
  have c1 := (hT.below' h.below).c1
  have hk := hT.k16
  clear gl hT h hv hn
  go_enter Tryd.func46, Tryd.ntmps46
  go_wp2_with fail
  go_loopg [5, 6, 7, 15] k (fun gg v5 v6 v7 v15 wx => ∃ i : Nat, gg + i = k ∧ v15 = .int .i64 (i : Int) ∧ v5 = .int .i64 (cntB L i : Int) ∧ Below w.heap.size w wx)
  case atStart => exact ⟨0, by omega, rfl, rfl, by first | exact Below.refl _ _ | exact below_drewN (Below.refl _ _) _⟩
  case round =>
    clear c1
    obtain ⟨i, hi, rfl, rfl, hA0⟩ := hrel
    have hA := H.out.next hA0
    have BB := Aside0.mk hA0
    have A := Aside0.mk hA
    clear hA0
    have HI := Aside0.mk hi
    clear hA
    by_cases hlt : i < k
    · have d1 : decide ((i : Int) < (k : Int)) = true := decide_eq_true (by omega)
      obtain ⟨hx1, hx2, hx3⟩ := HV.out i hlt
      have HC := cntB_succ L i
      have HCL := cntB_le L i
      obtain ⟨x, hx⟩ : ∃ x, ws i = x := ⟨_, rfl⟩
      rw [hx] at hx1 hx2 hx3
      obtain ⟨lv, hlv⟩ : ∃ b, L i = b := ⟨_, rfl⟩
      rw [hlv] at hx3 HC
      obtain ⟨c, hc⟩ : ∃ c, cntB L i = c := ⟨_, rfl⟩
      rw [hc] at HC HCL ⊢
      have HX := Aside0.mk (And.intro hx1 (And.intro hx2 hx3))
      have HC2 := Aside0.mk (And.intro HC HCL)
      have HLT := Aside0.mk hlt
      clear hx1 hx2 hx3 hx hlv hc HC HCL hi
      go_wp2_with fail
      refine (cell_in i HLT.out (HT.out.below' A.out.below)).mono ?_
      rintro e w1 ⟨rfl, hb⟩
      have A1 := Aside0.mk (A.out.next hb)
      have BB := Aside0.mk (BB.out.trans (hb.mono BB.out.size))
      clear hb A
      go_wp2_with fail
      refine (show Calls Tryd.prog 36 #[.pointer (some ⟨ga, 0, none⟩), .int .i64 ((bN : Int) + (i : Int))] w1 fun r w' => r = .returned (.int .u64 (x : Int)) ∧ ∃ m, w' = w1.drewN m from HX.out.2.1 ▸ Settle.look_n (bN + i) (by have := HN.out; have := HLT.out; omega) A1.out).mono ?_
      rintro e w2 ⟨rfl, n2, rfl⟩
      have hb := below_drewN (Below.refl w1.heap.size w1) n2
      have A2 := Aside0.mk (A1.out.next hb)
      have BB := Aside0.mk (BB.out.trans (hb.mono BB.out.size))
      obtain ⟨w2, hw2⟩ : ∃ ww, w1.drewN n2 = ww := ⟨_, rfl⟩
      rw [hw2] at A2 BB ⊢
      clear hb A1 hw2
      go_wp2_with fail
      refine (Slot.gen_calls x HX.out.1 _ (Slot.Cells.below GL.out A2.out.below hz)).mono ?_
      rintro e w3 ⟨rfl, hb⟩
      have A3 := Aside0.mk (A2.out.next hb)
      have BB := Aside0.mk (BB.out.trans (hb.mono BB.out.size))
      clear hb A2
      go_wp2_with fail
      refine (show Calls Tryd.prog 27 #[.int .u64 (x : Int), .int .i64 (genN x : Int)] w3 fun r w' => r = .returned (.bool lv) ∧ Below w3.heap.size w3 w' from by
        have hh := Slot.live_calls x HX.out.1 (genN x : Int) w3 (Slot.Cells.below GL.out A3.out.below hz)
        have e1 : Slot.liveB x (genN x : Int) = lv := by rw [← HX.out.2.2]; unfold Slot.liveB; exact decide_eq_decide.2 ⟨fun h => h.2, fun h => ⟨rfl, h⟩⟩
        rwa [e1] at hh).mono ?_
      rintro e w4 ⟨rfl, hb⟩
      have A4 := Aside0.mk (A3.out.next hb)
      have BB := Aside0.mk (BB.out.trans (hb.mono BB.out.size))
      clear hb A3
      have hc16 : c ≤ 16 := by have := HC2.out.2; have := HLT.out; omega
      cases lv
      · go_wp2_with fail
        go_roundg (k - (i + 1))
        case measure => have := HI.out; have := HLT.out; omega
        case rel => exact ⟨i + 1, by have := HI.out; have := HLT.out; omega, by go_num, by rw [HC2.out.1]; simp, BB.out⟩
      · go_wp2_with fail
        go_roundg (k - (i + 1))
        case measure => have := HI.out; have := HLT.out; omega
        case rel => exact ⟨i + 1, by have := HI.out; have := HLT.out; omega, by go_num, by rw [HC2.out.1]; go_num, BB.out⟩
    · have d1 : decide ((i : Int) < (k : Int)) = false := decide_eq_false (by omega)
      obtain rfl : i = k := by omega
      go_wp2_with fail
      go_ret
      exact ⟨rfl, BB.out⟩
end Go.Proofs.YthonkcldddfpnaaDoor.Table
