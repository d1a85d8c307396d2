/- The same contracts over the seven numbers as a list; the law's own small trial of them. -/
import Derived.Test.YtidefefaealheaaAdmit
namespace Go.Proofs.Ytidefefaealheaa.Admit
open Go.RowKit Go.Proofs.Ytidefefaealheaa.PAdmitPlays Go.Proofs.YtidefefaealheaaW.PrintWords Go.Proofs.YtidefefaealheaaW.PrintLast Go.Proofs.YtidefefaealheaaW.PrintMore Go.Proofs.Ytidefefaealheaa.Aid Go.Proofs.Ytidefefaealheaa.Quiet Go.Proofs.Ytidefefaealheaa.Blk Go.Proofs.Ytidefefaealheaa.State
set_option linter.unusedVariables false
attribute [local go_sem] max2_int min2_int max_two min_two

theorem takeL_yes (g j : Nat) (hj : j < 4) (L : List Int) (hL : L.length = 7) (w : World) (h : Holds .i64 94 w g L) (h1 : L[2]?.getD (0 : Int) < L[0]?.getD 0) (h2 : L[3 + j]?.getD 0 < L[1]?.getD 0)
    (hb : (-1000 : Int) ≤ L[2]?.getD 0 ∧ L[2]?.getD 0 ≤ 1000 ∧ 0 ≤ L[3 + j]?.getD 0 ∧ L[3 + j]?.getD 0 ≤ 1000) :
    Calls Try.prog 51 #[.pointer (some ⟨g, 0, none⟩), .int .i64 (j : Int)] w fun r w' => r = .returned (.bool true) ∧ Holds .i64 94 w' g ((L.set 2 (L[2]?.getD 0 + 1)).set (3 + j) (L[3 + j]?.getD 0 + 1)) ∧ OnlyAt g w w' :=
  (take_yes g j hj _ _ _ _ w (h.cell (by omega)) (h.cell (by omega)) (h.cell (by omega)) (h.cell (by omega)) (h.free _) (h.free _) h1 h2 hb).mono fun _ _ ⟨hr, hs⟩ =>
    ⟨hr, hs.blk ((h.set 2 _).set (3 + j) _), (((OnlyAt.refl g w).set _ _).set _ _).same hs⟩
theorem giveL_yes (g j : Nat) (hj : j < 4) (L : List Int) (hL : L.length = 7) (w : World) (h : Holds .i64 94 w g L) (h1 : (0 : Int) < L[3 + j]?.getD 0) (hb : (-1000 : Int) ≤ L[2]?.getD 0 ∧ L[2]?.getD 0 ≤ 1000 ∧ L[3 + j]?.getD 0 ≤ 1000) :
    Calls Try.prog 50 #[.pointer (some ⟨g, 0, none⟩), .int .i64 (j : Int)] w fun r w' => r = .returned (.bool true) ∧ Holds .i64 94 w' g ((L.set 2 (L[2]?.getD 0 - 1)).set (3 + j) (L[3 + j]?.getD 0 - 1)) ∧ OnlyAt g w w' :=
  (give_yes g j hj _ _ w (h.cell (by omega)) (h.cell (by omega)) (h.free _) (h.free _) h1 hb).mono fun _ _ ⟨hr, hs⟩ =>
    ⟨hr, hs.blk ((h.set 2 _).set (3 + j) _), (((OnlyAt.refl g w).set _ _).set _ _).same hs⟩
theorem takeL_full (g j : Nat) (hj : j < 4) (L : List Int) (hL : L.length = 7) (w : World) (h : Holds .i64 94 w g L) (h1 : L[0]?.getD 0 ≤ L[2]?.getD 0) :
    Calls Try.prog 51 #[.pointer (some ⟨g, 0, none⟩), .int .i64 (j : Int)] w fun r w' => r = .returned (.bool false) ∧ ∃ m, w' = w.drewN m :=
  take_full g j hj _ _ w (h.cell (by omega)) (h.cell (by omega)) h1
theorem takeL_each (g j : Nat) (hj : j < 4) (L : List Int) (hL : L.length = 7) (w : World) (h : Holds .i64 94 w g L) (h1 : L[2]?.getD (0 : Int) < L[0]?.getD 0) (h2 : L[1]?.getD 0 ≤ L[3 + j]?.getD 0) :
    Calls Try.prog 51 #[.pointer (some ⟨g, 0, none⟩), .int .i64 (j : Int)] w fun r w' => r = .returned (.bool false) ∧ ∃ m, w' = w.drewN m :=
  take_each g j hj _ _ _ _ w (h.cell (by omega)) (h.cell (by omega)) (h.cell (by omega)) (h.cell (by omega)) h1 h2
theorem giveL_none (g j : Nat) (hj : j < 4) (L : List Int) (hL : L.length = 7) (w : World) (h : Holds .i64 94 w g L) (h1 : L[3 + j]?.getD 0 = 0) :
    Calls Try.prog 50 #[.pointer (some ⟨g, 0, none⟩), .int .i64 (j : Int)] w fun r w' => r = .returned (.bool false) ∧ ∃ m, w' = w.drewN m :=
  give_none g j hj w (by have := h.cell (i := 3 + j) (by omega); rwa [h1] at this)
theorem lenL (g : Nat) (L : List Int) (hL : L.length = 7) (w : World) (h : Holds .i64 94 w g L) : Calls Try.prog 52 #[.pointer (some ⟨g, 0, none⟩)] w fun r w' => r = .returned (.int .i64 (L[2]?.getD 0)) ∧ ∃ m, w' = w.drewN m :=
  len_some g _ w (h.cell (by omega))
theorem toL (g j : Nat) (hj : j < 4) (L : List Int) (hL : L.length = 7) (w : World) (h : Holds .i64 94 w g L) : Calls Try.prog 53 #[.pointer (some ⟨g, 0, none⟩), .int .i64 (j : Int)] w fun r w' => r = .returned (.int .i64 (L[3 + j]?.getD 0)) ∧ ∃ m, w' = w.drewN m :=
  to_in g j hj _ w (h.cell (by omega))
theorem newL (x y a e : Int) (w : World) (ha : mn (mx x 0) 64 = a) (he : mn (mx y 0) 64 = e) :
    Calls Try.prog 49 #[.int .i64 x, .int .i64 y] w fun r w' => r = .returned (.pointer (some ⟨w.heap.size, 0, none⟩)) ∧ Holds .i64 94 w' w.heap.size [a, e, 0, 0, 0, 0, 0] ∧ Below w.heap.size w w' ∧ w.heap.size < w'.heap.size :=
  (new_calls x y a e w ha he).mono fun _ w' ⟨hr, hs⟩ => ⟨hr, hs.blk (heap_new _ _), by
    have hb : Below w.heap.size w (w.alloc (.cells (arr .i64 [a, e, 0, 0, 0, 0, 0]) 94)) := (Below.refl _ _).alloc (Nat.le_refl _) _
    exact hb.trans ⟨hs.os, hs.tape, hs.output, by rw [hs.heap]; exact Nat.le_refl _, fun _ _ => by rw [hs.heap]⟩, by rw [hs.heap]; simp⟩

set_option maxHeartbeats 1000000 in
theorem awake_calls (w : World) : Calls Try.prog 54 #[] w fun e w' => e = .returned (.bool true) ∧ Below w.heap.size w w' := by
  go_enter Try.func54, Try.ntmps54
  go_wp2_with fail
  refine (newL 2 1 2 1 w (by kernel_rfl) (by kernel_rfl)).mono ?_
  rintro e w1 ⟨rfl, hH, hb, hz⟩
  have H1 := Aside0.mk hH
  have B1 := Aside0.mk hb
  clear hH hb
  go_wp2_with fail
  refine (takeL_yes w.heap.size 0 (by decide) [2, 1, 0, 0, 0, 0, 0] rfl w1 H1.out (by decide) (by decide) (by decide)).mono ?_
  rintro e w2 ⟨rfl, hH, hT⟩
  have H2 := Aside0.mk (show Holds .i64 94 w2 w.heap.size [2, 1, 1, 1, 0, 0, 0] from hH)
  have B2 := Aside0.mk (hT.below B1.out (Nat.le_refl _) B1.out.size)
  clear hH hT
  go_wp2_with fail
  refine (takeL_each w.heap.size 0 (by decide) [2, 1, 1, 1, 0, 0, 0] rfl w2 H2.out (by decide) (by decide)).mono ?_
  rintro e w' ⟨rfl, n1, rfl⟩
  go_wp2_with fail
  refine (takeL_yes w.heap.size 1 (by decide) [2, 1, 1, 1, 0, 0, 0] rfl (w2.drewN n1) (H2.out.drewN n1) (by decide) (by decide) (by decide)).mono ?_
  rintro e w3 ⟨rfl, hH, hT⟩
  have H3 := Aside0.mk (show Holds .i64 94 w3 w.heap.size [2, 1, 2, 1, 1, 0, 0] from hH)
  have B3 := Aside0.mk (hT.below (below_drewN B2.out n1) (Nat.le_refl _) B2.out.size)
  clear hH hT
  go_wp2_with fail
  refine (takeL_full w.heap.size 2 (by decide) [2, 1, 2, 1, 1, 0, 0] rfl w3 H3.out (by decide)).mono ?_
  rintro e w' ⟨rfl, n2, rfl⟩
  go_wp2_with fail
  refine (lenL w.heap.size [2, 1, 2, 1, 1, 0, 0] rfl _ (H3.out.drewN n2)).mono ?_
  rintro e w' ⟨rfl, n3, rfl⟩
  go_wp2_with fail
  refine (toL w.heap.size 0 (by decide) [2, 1, 2, 1, 1, 0, 0] rfl _ (H3.out.drewN _)).mono ?_
  rintro e w' ⟨rfl, n4, rfl⟩
  go_wp2_with fail
  go_ret
  exact ⟨rfl, below_drewN B3.out _⟩
end Go.Proofs.Ytidefefaealheaa.Admit
