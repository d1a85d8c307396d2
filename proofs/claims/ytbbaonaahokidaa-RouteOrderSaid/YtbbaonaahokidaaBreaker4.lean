/- A breaker: a new one; its own small trial. -/
import Derived.Test.YtbbaonaahokidaaBreaker3
import Derived.Test.YtbbaonaahokidaaRegInv
import Derived.Deep.WholeRow
namespace Go.Proofs.Ytbbaonaahokidaa.Breaker
open Go.RowKit Go.Proofs.YtbbaonaahokidaaW.PrintWords Go.Proofs.YtbbaonaahokidaaW.PrintLast Go.Proofs.YtbbaonaahokidaaW.PrintMore Go.Proofs.Ytbbaonaahokidaa.Aid Go.Proofs.Ytbbaonaahokidaa.Quiet Go.Proofs.Ytbbaonaahokidaa.Blk Go.Proofs.Ytbbaonaahokidaa.State Go.Proofs.Ytbbaonaahokidaa.Vals Go.Proofs.Ytbbaonaahokidaa.Window Go.Proofs.Ytbbaonaahokidaa.WinRef
set_option linter.unusedVariables false
set_option linter.unusedSimpArgs false
attribute [local go_sem] max2_int min2_int max_two min_two

/-- A new window. -/
def NW (W : World) (B : Nat) (wd : Int) (g gl : Nat) (w : World) : Prop := HoldsV 107 w g (winv wd gl B 0) ∧ Holds .i64 52 w gl (List.replicate (B * 2) 0) ∧ g ≠ gl ∧ (W.heap.size ≤ g ∧ W.heap.size ≤ gl)
theorem NW.next {W : World} {B : Nat} {wd : Int} {g gl : Nat} {w w' : World} (h : NW W B wd g gl w) (hb : Below w.heap.size w w') : NW W B wd g gl w' := ⟨h.1.below' hb, h.2.1.below hb h.2.1.lt, h.2.2⟩
/-- A breaker that was made. -/
def MB (W w : World) (br g gl B : Nat) (nb wt least part cool trials wd : Int) : Prop := HoldsV 115 w br (brV nb wt least part cool trials g 0 0 0 0) ∧ NW W B wd g gl w ∧ (br ≠ g ∧ br ≠ gl ∧ W.heap.size ≤ br)
theorem MB.next {W : World} {br g gl B : Nat} {nb wt least part cool trials wd : Int} {w w' : World} (h : MB W w br g gl B nb wt least part cool trials wd) (hb : Below w.heap.size w w') : MB W w' br g gl B nb wt least part cool trials wd := ⟨h.1.below' hb, h.2.1.next hb, h.2.2⟩
theorem NW.made {W : World} {B : Nat} {wd : Int} {g gl : Nat} {w : World} {nb wt least part cool trials : Int} (h : NW W B wd g gl w) (hs : W.heap.size ≤ w.heap.size) : MB W (w.alloc (.cells (brV nb wt least part cool trials g 0 0 0 0).toArray 115)) w.heap.size g gl B nb wt least part cool trials wd :=
  ⟨heap_new _ _, h.next ((Below.refl _ _).alloc (Nat.le_refl _) _), by have := h.1.lt; omega, by have := h.2.1.lt; omega, hs⟩
structure RN (W : World) (gx B : Nat) (nb wt l1 p1 co t1 wd : Int) (w0 : World) (D : Nat → Bool) (u21 u22 u23 u24 u25 u26 u27 u28 u2 : Value) (w : World) : Prop where
  below : Below w0.heap.size w0 w
  h0 : D 0 = true → u21 = .agg ([.int .i64 nb, .int .i64 wt, .int .i64 l1, .int .i64 p1, .int .i64 co, .int .i64 t1] : List Value).toArray
  h1 : D 1 = true → u22 = .pointer (some ⟨gx, 0, none⟩)
  h2 : D 2 = true → u23 = .int .i64 nb
  h3 : D 3 = true → u24 = .pointer (some ⟨gx, 1, none⟩)
  h4 : D 4 = true → u25 = .int .i64 wt
  hx : HoldsV 68 w gx [.int .i64 nb, .int .i64 wt, .int .i64 l1, .int .i64 p1, .int .i64 co, .int .i64 t1]
  x5 : D 5 = true → ∃ g gl, u26 = .pointer (some ⟨g, 0, none⟩) ∧ NW W B wd g gl w
  x6 : D 6 = true → ∃ g gl, u27 = .agg (brV nb wt l1 p1 co t1 g 0 0 0 0).toArray ∧ NW W B wd g gl w
  x7 : D 7 = true → ∃ br g gl, u28 = .pointer (some ⟨br, 0, none⟩) ∧ MB W w br g gl B nb wt l1 p1 co t1 wd
  x8 : D 8 = true → ∃ br g gl, u2 = .pointer (some ⟨br, 0, none⟩) ∧ MB W w br g gl B nb wt l1 p1 co t1 wd
set_option maxHeartbeats 2000000 in
set_option maxRecDepth 100000 in
theorem new_at (nb wt least part cool trials l1 p0 p1 cc co t1 cl wd : Int) (B : Nat) (W : World) (hB : mn (mx nb 1) 16 = (B : Int)) (hc : PPaceBands.ticks_Clamp.f wt = some cl) (hwd : mx cl 1 = wd) (hwd1 : 1 ≤ wd ∧ wd ≤ 1099511627776) (hB1 : 1 ≤ B ∧ B ≤ 16)
    (hl : (if least < 1 then 1 else least) = l1) (hp0 : (if part < 1 then 1 else part) = p0) (hp1 : (if 100 < p0 then 100 else p0) = p1) (ht : (if trials < 1 then 1 else trials) = t1) (hcc : PBreakerHeals.ticks_Clamp.f cool = some cc) (hco : (if cc < 1 then 1 else cc) = co) :
    Calls Try.prog 41 #[.agg #[.int .i64 nb, .int .i64 wt, .int .i64 least, .int .i64 part, .int .i64 cool, .int .i64 trials]] W fun r w' => ∃ br g gl, r = .returned (.pointer (some ⟨br, 0, none⟩)) ∧ Br w' br g gl B nb wt l1 p1 co t1 wd 0 0 0 0 0 (List.replicate (B * 2) 0) ∧ (W.heap.size ≤ br ∧ W.heap.size ≤ g ∧ W.heap.size ≤ gl) ∧ Below W.heap.size W w' := by
  have KN := Aside0.mk (fun w => new_calls nb wt B cl wd w hB hc hwd)
  have KC := Aside0.mk (fun w => PBreakerHeals.ticks_Clamp.calls cool cc w hcc)
  have HF := Aside0.mk (And.intro hwd1 hB1)
  have hu68 := Try.underlying68
  clear hB hc hwd hwd1 hB1 hcc
  go_enter Try.func41, Try.ntmps41
  go_upto_region 1 with fail
  obtain ⟨gx, hgx⟩ : ∃ x, W.heap.size = x := ⟨_, rfl⟩
  have HX := Aside0.mk (show HoldsV 68 (W.alloc (.cells #[.int .i64 nb, .int .i64 wt, .int .i64 least, .int .i64 part, .int .i64 cool, .int .i64 trials] 68)) gx [.int .i64 nb, .int .i64 wt, .int .i64 least, .int .i64 part, .int .i64 cool, .int .i64 trials] by rw [← hgx]; exact heap_new _ _)
  have B1 := Aside0.mk ((Below.refl W.heap.size W).alloc (Nat.le_refl _) (.cells #[.int .i64 nb, .int .i64 wt, .int .i64 least, .int .i64 part, .int .i64 cool, .int .i64 trials] 68))
  have HG := Aside0.mk (show W.heap.size ≤ gx by omega)
  obtain ⟨w1, hw1⟩ : ∃ x, W.alloc (.cells #[.int .i64 nb, .int .i64 wt, .int .i64 least, .int .i64 part, .int .i64 cool, .int .i64 trials] 68) = x := ⟨_, rfl⟩
  rw [hw1] at HX B1 ⊢
  rw [hgx]
  have x2 := HX.out.cell 2
  have x3 := HX.out.cell 3
  have x5 := HX.out.cell 5
  have x4 := HX.out.cell 4
  have f2 := HX.out.free 2
  have f3 := HX.out.free 3
  have f5 := HX.out.free 5
  simp only [List.getElem?_cons_zero, List.getElem?_cons_succ] at x2 x3 x4 x5
  clear hw1 hgx
  go_wp2_with fail
  have HX2 := Aside0.mk (((HX.out.set 2 (.int .i64 l1)).set 3 (.int .i64 p1)).set 5 (.int .i64 t1))
  have B2 := Aside0.mk (((B1.out.setCell (p := ⟨gx, 2, none⟩) HG.out (.int .i64 l1)).setCell (p := ⟨gx, 3, none⟩) HG.out (.int .i64 p1)).setCell (p := ⟨gx, 5, none⟩) HG.out (.int .i64 t1))
  refine (KC.out _).mono ?_
  rintro e w2 ⟨rfl, hb⟩
  have HX3 := Aside0.mk (HX2.out.below' hb)
  have B3 := Aside0.mk (B2.out.trans (hb.mono B2.out.size))
  have x4 := HX3.out.cell 4
  have f4 := HX3.out.free 4
  simp only [List.set_cons_zero, List.set_cons_succ, List.getElem?_cons_zero, List.getElem?_cons_succ] at x4
  clear hb x2 x3 x5 f2 f3 f5
  go_upto_region 3 with fail
  have HX4 := Aside0.mk (show HoldsV 68 (w2.setCell ⟨gx, 4, none⟩ (.int .i64 co)) gx [.int .i64 nb, .int .i64 wt, .int .i64 l1, .int .i64 p1, .int .i64 co, .int .i64 t1] from HX3.out.set 4 (.int .i64 co))
  have B4 := Aside0.mk (B3.out.setCell (p := ⟨gx, 4, none⟩) HG.out (.int .i64 co))
  obtain ⟨w3, hw3⟩ : ∃ x, w2.setCell ⟨gx, 4, none⟩ (.int .i64 co) = x := ⟨_, rfl⟩
  rw [hw3] at HX4 B4 ⊢
  clear hw3 HX HX2 HX3 B1 B2 B3 x4 f4
  go_cut [2] from 21 to 28 (fun v wx => ∃ br g gl, v = .pointer (some ⟨br, 0, none⟩) ∧ MB W wx br g gl B nb wt l1 p1 co t1 wd ∧ Below W.heap.size W wx)
  case first =>
    refine RegInv.wp_region_steps (I := fun D a w => ∃ u21 u22 u23 u24 u25 u26 u27 u28 u2, a = ⟨(.agg #[.int .i64 nb, .int .i64 wt, .int .i64 least, .int .i64 part, .int .i64 cool, .int .i64 trials] :: .pointer (some ⟨gx, 0, none⟩) :: u2 :: .pointer (some ⟨gx, 2, none⟩) :: .int .i64 least :: .int .i64 l1 :: .pointer (some ⟨gx, 3, none⟩) :: .int .i64 part :: .int .i64 p0 :: .int .i64 p1 :: .pointer (some ⟨gx, 5, none⟩) :: .int .i64 trials :: .int .i64 t1 :: .pointer (some ⟨gx, 2, none⟩) :: .pointer (some ⟨gx, 3, none⟩) :: .pointer (some ⟨gx, 5, none⟩) :: .pointer (some ⟨gx, 4, none⟩) :: .int .i64 cool :: .int .i64 cc :: .int .i64 co :: .pointer (some ⟨gx, 4, none⟩) :: u21 :: u22 :: u23 :: u24 :: u25 :: u26 :: u27 :: u28 :: []).toArray, []⟩ ∧ RN W gx B nb wt l1 p1 co t1 wd W D u21 u22 u23 u24 u25 u26 u27 u28 u2 w) (by kernel_rfl) (by kernel_rfl) ?_ ?_ ?_
    · exact ⟨_, _, _, _, _, _, _, _, _, rfl, ⟨B4.out.drew, fun h => (by cases h), fun h => (by cases h), fun h => (by cases h), fun h => (by cases h), fun h => (by cases h), HX4.out.below' ((Below.refl _ _).drew), fun h => (by cases h), fun h => (by cases h), fun h => (by cases h), fun h => (by cases h)⟩⟩
    · rintro D a w ⟨u21, u22, u23, u24, u25, u26, u27, u28, u2, rfl, hR⟩ hall
      obtain rfl := hR.h0 (hall 0 (by decide))
      obtain rfl := hR.h1 (hall 1 (by decide))
      obtain rfl := hR.h2 (hall 2 (by decide))
      obtain rfl := hR.h3 (hall 3 (by decide))
      obtain rfl := hR.h4 (hall 4 (by decide))
      obtain ⟨br, g, gl, rfl, hn⟩ := hR.x8 (hall 8 (by decide))
      go_wp2_with fail
      go_meet
      exact ⟨br, g, gl, rfl, hn, hR.below⟩
    · refine RegInv.Steps.cons (fun D a w hI hD hdep K hK => ?_) ?_
      · obtain ⟨u21, u22, u23, u24, u25, u26, u27, u28, u2, rfl, hR⟩ := hI
        rw [if_pos (by rfl)]
        refine wp_load_row 68 (.tmp 1) rfl gx rfl 68 _ (0, 0) _ hR.hx Try.underlying68 rfl (by kernel_rfl) ?_
        exact hK.out _ _ ⟨_, _, _, _, _, _, _, _, _, rfl, ⟨hR.below, fun _ => rfl, hR.h1, hR.h2, hR.h3, hR.h4, hR.hx, hR.x5, hR.x6, hR.x7, hR.x8⟩⟩
      refine RegInv.Steps.cons (fun D a w hI hD hdep K hK => ?_) ?_
      · obtain ⟨u21, u22, u23, u24, u25, u26, u27, u28, u2, rfl, hR⟩ := hI
        rw [if_pos (by rfl)]
        go_simp
        exact hK.out _ _ ⟨_, _, _, _, _, _, _, _, _, rfl, ⟨hR.below, hR.h0, fun _ => rfl, hR.h2, hR.h3, hR.h4, hR.hx, hR.x5, hR.x6, hR.x7, hR.x8⟩⟩
      refine RegInv.Steps.cons (fun D a w hI hD hdep K hK => ?_) ?_
      · obtain ⟨u21, u22, u23, u24, u25, u26, u27, u28, u2, rfl, hR⟩ := hI
        have d1 : D 1 = true := hdep ⟨1, .data⟩ (by simp) rfl
        obtain rfl := hR.h1 d1
        have c0 := hR.hx.cell 0
        simp only [List.getElem?_cons_zero, List.getElem?_cons_succ] at c0
        rw [if_pos (by rfl)]
        go_simp
        exact hK.out _ _ ⟨_, _, _, _, _, _, _, _, _, rfl, ⟨hR.below, hR.h0, hR.h1, fun _ => rfl, hR.h3, hR.h4, hR.hx, hR.x5, hR.x6, hR.x7, hR.x8⟩⟩
      refine RegInv.Steps.cons (fun D a w hI hD hdep K hK => ?_) ?_
      · obtain ⟨u21, u22, u23, u24, u25, u26, u27, u28, u2, rfl, hR⟩ := hI
        rw [if_pos (by rfl)]
        go_simp
        exact hK.out _ _ ⟨_, _, _, _, _, _, _, _, _, rfl, ⟨hR.below, hR.h0, hR.h1, hR.h2, fun _ => rfl, hR.h4, hR.hx, hR.x5, hR.x6, hR.x7, hR.x8⟩⟩
      refine RegInv.Steps.cons (fun D a w hI hD hdep K hK => ?_) ?_
      · obtain ⟨u21, u22, u23, u24, u25, u26, u27, u28, u2, rfl, hR⟩ := hI
        have d3 : D 3 = true := hdep ⟨3, .data⟩ (by simp) rfl
        obtain rfl := hR.h3 d3
        have c1 := hR.hx.cell 1
        simp only [List.getElem?_cons_zero, List.getElem?_cons_succ] at c1
        rw [if_pos (by rfl)]
        go_simp
        exact hK.out _ _ ⟨_, _, _, _, _, _, _, _, _, rfl, ⟨hR.below, hR.h0, hR.h1, hR.h2, hR.h3, fun _ => rfl, hR.hx, hR.x5, hR.x6, hR.x7, hR.x8⟩⟩
      refine RegInv.Steps.cons (fun D a w hI hD hdep K hK => ?_) ?_
      · obtain ⟨u21, u22, u23, u24, u25, u26, u27, u28, u2, rfl, hR⟩ := hI
        have d2 : D 2 = true := hdep ⟨2, .data⟩ (by simp) rfl
        obtain rfl := hR.h2 d2
        have d4 : D 4 = true := hdep ⟨4, .data⟩ (by simp) rfl
        obtain rfl := hR.h4 d4
        rw [if_pos (by rfl)]
        go_simp
        with_reducible refine (KN.out _).mono ?_
        rintro e w9 ⟨g, gl, rfl, hg1, hg2, hg3, hg4, hb9⟩
        exact hK.out _ _ ⟨_, _, _, _, _, _, _, _, _, rfl, ⟨hR.below.trans (hb9.mono hR.below.size), hR.h0, hR.h1, hR.h2, hR.h3, hR.h4, hR.hx.below' hb9, fun _ => ⟨g, gl, rfl, hg1, hg2, hg3, by have := hR.below.size; omega⟩, fun h => (hR.x6 h).imp fun _ h => h.imp fun _ h => ⟨h.1, h.2.next hb9⟩, fun h => (hR.x7 h).imp fun _ h => h.imp fun _ h => h.imp fun _ h => ⟨h.1, h.2.next hb9⟩, fun h => (hR.x8 h).imp fun _ h => h.imp fun _ h => h.imp fun _ h => ⟨h.1, h.2.next hb9⟩⟩⟩
      refine RegInv.Steps.cons (fun D a w hI hD hdep K hK => ?_) ?_
      · obtain ⟨u21, u22, u23, u24, u25, u26, u27, u28, u2, rfl, hR⟩ := hI
        have d0 : D 0 = true := hdep ⟨0, .data⟩ (by simp) rfl
        obtain rfl := hR.h0 d0
        have d5 : D 5 = true := hdep ⟨5, .data⟩ (by simp) rfl
        obtain ⟨g, gl, rfl, hn⟩ := hR.x5 d5
        rw [if_pos (by rfl)]
        go_simp
        exact hK.out _ _ ⟨_, _, _, _, _, _, _, _, _, rfl, ⟨hR.below, hR.h0, hR.h1, hR.h2, hR.h3, hR.h4, hR.hx, hR.x5, fun _ => ⟨g, gl, rfl, hn⟩, hR.x7, hR.x8⟩⟩
      refine RegInv.Steps.cons (fun D a w hI hD hdep K hK => ?_) ?_
      · obtain ⟨u21, u22, u23, u24, u25, u26, u27, u28, u2, rfl, hR⟩ := hI
        have d6 : D 6 = true := hdep ⟨6, .data⟩ (by simp) rfl
        obtain ⟨g, gl, rfl, hn⟩ := hR.x6 d6
        have hb9 : Below w.heap.size w (w.alloc (.cells (brV nb wt l1 p1 co t1 g 0 0 0 0).toArray 115)) := (Below.refl _ _).alloc (Nat.le_refl _) _
        rw [if_pos (by rfl)]
        go_simp
        exact hK.out _ _ ⟨_, _, _, _, _, _, _, _, _, rfl, ⟨hR.below.trans (hb9.mono hR.below.size), hR.h0, hR.h1, hR.h2, hR.h3, hR.h4, hR.hx.below' hb9, fun h => (hR.x5 h).imp fun _ h => h.imp fun _ h => ⟨h.1, h.2.next hb9⟩, fun h => (hR.x6 h).imp fun _ h => h.imp fun _ h => ⟨h.1, h.2.next hb9⟩, fun _ => ⟨w.heap.size, g, gl, rfl, hn.made hR.below.size⟩, fun h => (hR.x8 h).imp fun _ h => h.imp fun _ h => h.imp fun _ h => ⟨h.1, h.2.next hb9⟩⟩⟩
      refine RegInv.Steps.cons (fun D a w hI hD hdep K hK => ?_) ?_
      · obtain ⟨u21, u22, u23, u24, u25, u26, u27, u28, u2, rfl, hR⟩ := hI
        have d7 : D 7 = true := hdep ⟨7, .data⟩ (by simp) rfl
        obtain ⟨br, g, gl, rfl, hn⟩ := hR.x7 d7
        rw [if_pos (by rfl)]
        go_simp
        exact hK.out _ _ ⟨_, _, _, _, _, _, _, _, _, rfl, ⟨hR.below, hR.h0, hR.h1, hR.h2, hR.h3, hR.h4, hR.hx, hR.x5, hR.x6, hR.x7, fun _ => ⟨br, g, gl, rfl, hn⟩⟩⟩
      exact RegInv.Steps.nil
  case rest =>
    obtain ⟨br, g, gl, rfl, hm, hb⟩ := hcut
    go_wp2_with fail
    go_ret
    exact ⟨br, g, gl, rfl, ⟨hm.1, ⟨hm.2.1.1, hm.2.1.2.1, by simp, hm.2.1.2.2.1, HF.out.2, HF.out.1, by omega⟩, hm.2.2.1, hm.2.2.2.1⟩, ⟨hm.2.2.2.2, hm.2.1.2.2.2⟩, hb⟩
end Go.Proofs.Ytbbaonaahokidaa.Breaker
