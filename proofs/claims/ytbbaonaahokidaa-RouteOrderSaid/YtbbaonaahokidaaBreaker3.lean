/- A breaker: how a call went is noted, half open or shut; none at all. -/
import Derived.Test.YtbbaonaahokidaaBreaker2
namespace Go.Proofs.Ytbbaonaahokidaa.Breaker
open Go.RowKit Go.Proofs.YtbbaonaahokidaaW.PrintWords Go.Proofs.YtbbaonaahokidaaW.PrintLast Go.Proofs.YtbbaonaahokidaaW.PrintMore Go.Proofs.Ytbbaonaahokidaa.Aid Go.Proofs.Ytbbaonaahokidaa.Quiet Go.Proofs.Ytbbaonaahokidaa.Blk Go.Proofs.Ytbbaonaahokidaa.State Go.Proofs.Ytbbaonaahokidaa.Vals Go.Proofs.Ytbbaonaahokidaa.Window Go.Proofs.Ytbbaonaahokidaa.WinRef
set_option linter.unusedVariables false
set_option linter.unusedSimpArgs false
attribute [local go_sem] max2_int min2_int max_two min_two

/-- A breaker and its window. -/
structure Br (w : World) (br g gl B : Nat) (nb wt least part cool trials wd : Int) (st un tr ou : Int) (tu : Nat) (L : List Int) : Prop where
  h : HoldsV 115 w br (brV nb wt least part cool trials g st un tr ou)
  win : WinAt w g gl B wd tu L
  ne : br ≠ g ∧ br ≠ gl
section
variable {w w' : World} {br g gl B : Nat} {nb wt least part cool trials wd : Int} {st un tr ou : Int} {tu : Nat} {L : List Int}
theorem Br.below' (h : Br w br g gl B nb wt least part cool trials wd st un tr ou tu L) (hb : Below w.heap.size w w') : Br w' br g gl B nb wt least part cool trials wd st un tr ou tu L := ⟨h.h.below' hb, h.win.below' hb, h.ne⟩
/-- Only the breaker's own block was changed. -/
theorem Br.own (h : Br w br g gl B nb wt least part cool trials wd st un tr ou tu L) {st2 un2 tr2 ou2 : Int} (h2 : HoldsV 115 w' br (brV nb wt least part cool trials g st2 un2 tr2 ou2)) (ho : OnlyIn [br] w w') : Br w' br g gl B nb wt least part cool trials wd st2 un2 tr2 ou2 tu L :=
  ⟨h2, ⟨ho.blk (by have := h.ne; simp; omega) h.win.box, ho.blk (by have := h.ne; simp; omega) h.win.cells, h.win.len, h.win.ne, h.win.hB, h.win.hwd, h.win.htu⟩, h.ne⟩
theorem only_sub {S S' : List Nat} (h : OnlyIn S w w') (hs : ∀ x ∈ S, x ∈ S') : OnlyIn S' w w' := ⟨h.os, h.tape, h.output, h.size, fun k hk hn => h.block k hk (fun hm => hn (hs k hm))⟩
end
/-- What a call of the breaker leaves. -/
abbrev Left (w : World) (br g gl B : Nat) (nb wt least part cool trials wd : Int) (st un tr ou : Int) (tu : Nat) (L : List Int) (v : Value) (r : Ending) (w' : World) : Prop :=
  r = .returned v ∧ Br w' br g gl B nb wt least part cool trials wd st un tr ou tu L ∧ OnlyIn [br, g, gl] w w'
/-- Half open: one that went ill opens it. -/
theorem half_ill (br g gl B : Nat) (nb wt least part cool trials st un tr ou wd now un2 : Int) (tu : Nat) (L : List Int) (w : World) (h : Br w br g gl B nb wt least part cool trials wd st un tr ou tu L)
    (ha : PBreakerHeals.ticks_After.f now cool = some un2) :
    Calls Try.prog 69 #[.pointer (some ⟨br, 0, none⟩), .int .i64 now, .bool false] w (Left w br g gl B nb wt least part cool trials wd 1 un2 0 0 tu (List.replicate (B * 2) 0) (.tuple #[])) := by
  have KO := Aside0.mk (open_at br g gl B nb wt least part cool trials st un tr ou wd now un2 tu L w h.h h.win h.ne ha)
  have HN := Aside0.mk h.ne
  clear h ha
  go_enter Try.func69, Try.ntmps69
  go_wp2_with fail
  refine KO.out.mono ?_
  rintro e w1 ⟨rfl, h1, h2, h3⟩
  have F := Aside0.mk (show Br w1 br g gl B nb wt least part cool trials wd 1 un2 0 0 tu (List.replicate (B * 2) 0) from ⟨h1, h2, HN.out⟩)
  have O := Aside0.mk h3
  clear h1 h2 h3
  go_wp2_with fail
  go_end0
  exact ⟨rfl, F.out, O.out⟩
/-- Half open: one that went well; when all that may try went well it is shut. -/
theorem half_well (br g gl B : Nat) (nb wt least part cool trials un tr ou ou2 wd now : Int) (sh : Bool) (tu : Nat) (L : List Int) (w : World) (h : Br w br g gl B nb wt least part cool trials wd 2 un tr ou tu L)
    (ho : 1 ≤ ou ∧ ou ≤ 1000) (ho2 : ou - 1 = ou2) (hs : (decide (tr = 0) && decide (ou2 = 0)) = sh) :
    Calls Try.prog 69 #[.pointer (some ⟨br, 0, none⟩), .int .i64 now, .bool true] w (Left w br g gl B nb wt least part cool trials wd (if sh then 0 else 2) un tr ou2 tu (if sh then List.replicate (B * 2) 0 else L) (.tuple #[])) := by
  have KC := Aside0.mk (fun w h => clear_at g gl B wd tu L w h)
  have H := Aside0.mk h
  have c10 := h.h.cell 10
  have c9 := h.h.cell 9
  have c7 := h.h.cell 7
  have c6 := h.h.cell 6
  have f10 := h.h.free 10
  have f7 := h.h.free 7
  simp only [brV, List.getElem?_cons_zero, List.getElem?_cons_succ] at c10 c9 c7 c6
  have k1 : decide (ou2 < 0) = false := decide_eq_false (by omega)
  have k3 : IntKind.i64.wrap (ou - 1) = ou2 := by rw [IntKind.wrap_i64]; omega
  have k4 : (if ou2 < 0 then 0 else ou2) = ou2 := if_neg (by omega)
  have hX : ∀ v : Int, Br (w.setCell ⟨br, 10, none⟩ (.int .i64 ou2)) br g gl B nb wt least part cool trials wd 2 un tr ou2 tu L := fun v => H.out.own (H.out.h.set 10 _) ((OnlyIn.refl _ _).set _ _ (by simp))
  have HS := Aside0.mk hs
  clear h ho ho2 hs
  by_cases h1 : tr = 0
  · by_cases h2 : ou2 = 0
    · subst h1 h2
      obtain rfl : sh = true := by rw [← HS.out]; rfl
      clear HS
      go_enter Try.func69, Try.ntmps69
      go_wp2_with fail
      have hX1 : Br ((w.setCell ⟨br, 10, none⟩ (.int .i64 0)).setCell ⟨br, 7, none⟩ (.int .i64 0)) br g gl B nb wt least part cool trials wd 0 un 0 0 tu L := (hX 0).own ((hX 0).h.set 7 _) ((OnlyIn.refl _ _).set _ _ (by simp))
      refine (KC.out _ hX1.win).mono ?_
      rintro e w1 ⟨rfl, h1, h2⟩
      have F := Aside0.mk (show Br w1 br g gl B nb wt least part cool trials wd 0 un 0 0 tu (List.replicate (B * 2) 0) from ⟨h2.blk (by have := H.out.ne; simp; omega) hX1.h, h1, H.out.ne⟩)
      have O := Aside0.mk (show OnlyIn [br, g, gl] w w1 from (((OnlyIn.refl [br, g, gl] w).set ⟨br, 10, none⟩ (.int .i64 0) (by simp)).set ⟨br, 7, none⟩ (.int .i64 0) (by simp)).trans (only_sub h2 (by intro x hx; simp at hx ⊢; omega)))
      clear h1 h2 hX hX1 c10 c9 c7 c6 f10 f7
      go_wp2_with fail
      go_end0
      exact ⟨rfl, F.out, O.out⟩
    · subst h1
      obtain rfl : sh = false := by rw [← HS.out]; simp [h2]
      have k2 : (ou2 == 0) = false := beq_eq_false_iff_ne.2 h2
      clear HS h2
      have FX := Aside0.mk (hX 0)
      clear hX
      go_enter Try.func69, Try.ntmps69
      go_wp2_with fail
      go_end0
      first
        | exact ⟨rfl, FX.out.below' (below_drewN (Below.refl _ _) _), (((OnlyIn.refl [br, g, gl] w).set ⟨br, 10, none⟩ (.int .i64 ou2) (by simp)).next (below_drewN (Below.refl _ _) _))⟩
        | exact ⟨rfl, FX.out, ((OnlyIn.refl [br, g, gl] w).set ⟨br, 10, none⟩ (.int .i64 ou2) (by simp))⟩
  · obtain rfl : sh = false := by rw [← HS.out]; simp [h1]
    have k2 : (tr == 0) = false := beq_eq_false_iff_ne.2 h1
    clear HS h1
    have FX := Aside0.mk (hX 0)
    clear hX
    go_enter Try.func69, Try.ntmps69
    go_wp2_with fail
    go_end0
    first
      | exact ⟨rfl, FX.out.below' (below_drewN (Below.refl _ _) _), (((OnlyIn.refl [br, g, gl] w).set ⟨br, 10, none⟩ (.int .i64 ou2) (by simp)).next (below_drewN (Below.refl _ _) _))⟩
      | exact ⟨rfl, FX.out, ((OnlyIn.refl [br, g, gl] w).set ⟨br, 10, none⟩ (.int .i64 ou2) (by simp))⟩
/-- An open one takes no note. -/
theorem note_open (br g gl B : Nat) (nb wt least part cool trials un tr ou wd now : Int) (q : Bool) (tu : Nat) (L : List Int) (w : World) (h : Br w br g gl B nb wt least part cool trials wd 1 un tr ou tu L) (hp : PBreakerHeals.ticks_Past.f now un = some false) :
    Calls Try.prog 44 #[.pointer (some ⟨br, 0, none⟩), .int .i64 now, .bool q] w (Left w br g gl B nb wt least part cool trials wd 1 un tr ou tu L (.tuple #[])) := by
  have KS := Aside0.mk (state_open br g nb wt least part cool trials un tr ou now w h.h hp)
  have H := Aside0.mk h
  clear h hp
  go_enter Try.func44, Try.ntmps44
  go_wp2_with fail
  refine KS.out.mono ?_
  rintro e w1 ⟨rfl, h1, h2⟩
  have F := Aside0.mk (H.out.own h1 h2)
  have O := Aside0.mk (show OnlyIn [br, g, gl] w w1 from only_sub h2 (by simp))
  clear h1 h2
  go_wp2_with fail
  go_end0
  first
    | exact ⟨rfl, F.out, O.out⟩
    | exact ⟨rfl, F.out.below' (below_drewN (Below.refl _ _) _), O.out.next (below_drewN (Below.refl _ _) _)⟩
/-- A half open one notes how one that tried went. -/
theorem note_half (br g gl B : Nat) (nb wt least part cool trials un tr ou wd now st2 un2 tr2 ou2 : Int) (q : Bool) (tu : Nat) (L L2 : List Int) (w : World) (h : Br w br g gl B nb wt least part cool trials wd 2 un tr ou tu L)
    (KH : ∀ w, Br w br g gl B nb wt least part cool trials wd 2 un tr ou tu L → Calls Try.prog 69 #[.pointer (some ⟨br, 0, none⟩), .int .i64 now, .bool q] w (Left w br g gl B nb wt least part cool trials wd st2 un2 tr2 ou2 tu L2 (.tuple #[]))) :
    Calls Try.prog 44 #[.pointer (some ⟨br, 0, none⟩), .int .i64 now, .bool q] w (Left w br g gl B nb wt least part cool trials wd st2 un2 tr2 ou2 tu L2 (.tuple #[])) := by
  have KS := Aside0.mk (state_half br g nb wt least part cool trials un tr ou now w h.h)
  have KH := Aside0.mk KH
  have H := Aside0.mk h
  clear h
  go_enter Try.func44, Try.ntmps44
  go_wp2_with fail
  refine KS.out.mono ?_
  rintro e w1 ⟨rfl, h1, h2⟩
  have F := Aside0.mk (H.out.own h1 h2)
  have O := Aside0.mk (show OnlyIn [br, g, gl] w w1 from only_sub h2 (by simp))
  clear h1 h2
  go_wp2_with fail
  refine (KH.out _ (by first | exact F.out | exact F.out.below' (below_drewN (Below.refl _ _) _))).mono ?_
  rintro e w2 ⟨rfl, h1, h2⟩
  have F2 := Aside0.mk h1
  have O2 := Aside0.mk (O.out.trans (by first | exact h2 | exact (OnlyIn.of_below (below_drewN (Below.refl _ _) _)).trans h2))
  clear h1 h2
  go_wp2_with fail
  go_end0
  exact ⟨rfl, F2.out, O2.out⟩
/-- A shut one notes that too much went ill, and opens. -/
theorem note_opens (br g gl B : Nat) (nb wt least part cool trials un tr ou wd now s0 s1 un2 : Int) (tu tu2 : Nat) (q : Bool) (L L2 : List Int) (w : World) (h : Br w br g gl B nb wt least part cool trials wd 0 un tr ou tu L)
    (NOTE : ∀ w, WinAt w g gl B wd tu L → Calls Try.prog 25 #[.pointer (some ⟨g, 0, none⟩), .int .i64 now, .bool q] w fun r w' => r = .returned (.tuple #[]) ∧ WinAt w' g gl B wd tu2 L2 ∧ OnlyIn [g, gl] w w')
    (CNT : ∀ w, WinAt w g gl B wd tu2 L2 → Calls Try.prog 27 #[.pointer (some ⟨g, 0, none⟩), .int .i64 now] w fun r w' => r = .returned (.agg #[.int .i64 s0, .int .i64 s1]) ∧ WinAt w' g gl B wd tu2 L2 ∧ OnlyIn [g, gl] w w')
    (hs0 : 0 ≤ s0 ∧ s0 ≤ 1000) (hs1 : 0 ≤ s1 ∧ s1 ≤ 1000) (hp : 0 ≤ part ∧ part ≤ 100) (hb : (decide (least ≤ s0 + s1) && decide ((s0 + s1) * part ≤ s1 * 100)) = true) (ha : PBreakerHeals.ticks_After.f now cool = some un2) :
    Calls Try.prog 44 #[.pointer (some ⟨br, 0, none⟩), .int .i64 now, .bool q] w (Left w br g gl B nb wt least part cool trials wd 1 un2 0 0 tu2 (List.replicate (B * 2) 0) (.tuple #[])) := by
  have KS := Aside0.mk (state_shut br g nb wt least part cool trials un tr ou now w h.h)
  have KN := Aside0.mk NOTE
  have KC := Aside0.mk CNT
  have KW := Aside0.mk (fun (w : World) (h : HoldsV 115 w br (brV nb wt least part cool trials g 0 un tr ou)) => worse_at br g nb wt least part cool trials 0 un tr ou s0 s1 true w h hs0 hs1 hp hb)
  have KO := Aside0.mk (fun (w : World) (h : HoldsV 115 w br (brV nb wt least part cool trials g 0 un tr ou)) (hW : WinAt w g gl B wd tu2 L2) (hne : br ≠ g ∧ br ≠ gl) => open_at br g gl B nb wt least part cool trials 0 un tr ou wd now un2 tu2 L2 w h hW hne ha)
  have H := Aside0.mk h.h
  have HW := Aside0.mk h.win
  have HN := Aside0.mk h.ne
  clear NOTE CNT hs0 hs1 hp hb h ha
  go_enter Try.func44, Try.ntmps44
  go_wp2_with fail
  refine KS.out.mono ?_
  rintro e w1 ⟨rfl, n1, rfl⟩
  have H1 := Aside0.mk (H.out.drewN n1)
  have W1 := Aside0.mk (HW.out.below' (below_drewN (Below.refl _ _) n1))
  have O1 := Aside0.mk (OnlyIn.of_below (S := [br, g, gl]) (below_drewN (Below.refl w.heap.size w) n1))
  obtain ⟨w2, hw2⟩ : ∃ x, w.drewN n1 = x := ⟨_, rfl⟩
  rw [hw2] at H1 W1 O1 ⊢
  have c6 := H1.out.cell 6
  simp only [brV, List.getElem?_cons_zero, List.getElem?_cons_succ] at c6
  clear hw2
  go_wp2_with fail
  refine (KN.out _ W1.out).mono ?_
  rintro e w3 ⟨rfl, hw3, ho3⟩
  have H3 := Aside0.mk (show HoldsV 115 w3 br (brV nb wt least part cool trials g 0 un tr ou) from ho3.blk (by have := HN.out; simp; omega) H1.out)
  have W3 := Aside0.mk hw3
  have O3 := Aside0.mk (O1.out.trans (only_sub ho3 (S' := [br, g, gl]) (by intro x hx; simp at hx ⊢; omega)))
  have c7 := H3.out.cell 6
  simp only [brV, List.getElem?_cons_zero, List.getElem?_cons_succ] at c7
  clear hw3 ho3 c6 H1 W1 O1
  go_wp2_with fail
  refine (KC.out _ W3.out).mono ?_
  rintro e w4 ⟨rfl, hw4, ho4⟩
  have H4 := Aside0.mk (show HoldsV 115 w4 br (brV nb wt least part cool trials g 0 un tr ou) from ho4.blk (by have := HN.out; simp; omega) H3.out)
  have W4 := Aside0.mk hw4
  have O4 := Aside0.mk (O3.out.trans (only_sub ho4 (S' := [br, g, gl]) (by intro x hx; simp at hx ⊢; omega)))
  clear hw4 ho4 c7 H3 W3 O3
  go_wp2_with fail
  refine (KW.out _ H4.out).mono ?_
  rintro e w5 ⟨rfl, hb5⟩
  have H5 := Aside0.mk (H4.out.below' hb5)
  have W5 := Aside0.mk (W4.out.below' hb5)
  have O5 := Aside0.mk (O4.out.next hb5)
  clear hb5
  go_wp2_with fail
  refine (KO.out _ H5.out W5.out HN.out).mono ?_
  rintro e w6 ⟨rfl, h1, h2, h3⟩
  have F := Aside0.mk (show Br w6 br g gl B nb wt least part cool trials wd 1 un2 0 0 tu2 (List.replicate (B * 2) 0) from ⟨h1, h2, HN.out⟩)
  have O6 := Aside0.mk (O5.out.trans h3)
  clear h1 h2 h3
  go_wp2_with fail
  go_end0
  exact ⟨rfl, F.out, O6.out⟩
theorem note_none (now : Int) (q : Bool) (w : World) : Calls Try.prog 44 #[.pointer none, .int .i64 now, .bool q] w fun r w' => r = .returned (.tuple #[]) ∧ Below w.heap.size w w' := by
  go_enter Try.func44, Try.ntmps44
  go_wp2_with fail
  refine bodyPost_ret (results_none rfl _ _ _) rfl ?_
  exact ⟨rfl, by first | exact below_drewN (Below.refl _ _) _ | exact Below.refl _ _⟩
theorem counts_none (now : Int) (w : World) : Calls Try.prog 46 #[.pointer none, .int .i64 now] w fun r w' => r = .returned (.agg #[.int .i64 0, .int .i64 0]) ∧ Below w.heap.size w w' := by
  have hu52 := Try.underlying52
  go_enter Try.func46, Try.ntmps46
  go_wp2_with fail
  refine bodyPost_ret (results_cell_row rfl _ _ w.heap.size 52 [.int .i64 0, .int .i64 0].toArray (0, 0) _ rfl (heap_new w _) Try.underlying52 rfl (by kernel_rfl)) rfl ?_
  exact ⟨rfl, (Below.refl _ _).alloc (Nat.le_refl _) _⟩
end Go.Proofs.Ytbbaonaahokidaa.Breaker
