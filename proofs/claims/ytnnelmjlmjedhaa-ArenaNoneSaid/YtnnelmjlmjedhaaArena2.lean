/- An arena's first cell read, written and swapped; the law's own small trial. -/
import Derived.Test.YtnnelmjlmjedhaaArena
import Derived.Test.YtnnelmjlmjedhaaOpen
namespace Go.Proofs.Ytnnelmjlmjedhaa.Arena
open Go.RowKit Go.Proofs.Ytnnelmjlmjedhaa.PArenaNone Go.Proofs.YtnnelmjlmjedhaaW.PrintWords Go.Proofs.YtnnelmjlmjedhaaW.PrintLast Go.Proofs.YtnnelmjlmjedhaaW.PrintMore Go.Proofs.Ytnnelmjlmjedhaa.Open Go.Proofs.Ytnnelmjlmjedhaa.Aid Go.Proofs.Ytnnelmjlmjedhaa.Quiet Go.Proofs.Ytnnelmjlmjedhaa.Blk Go.Proofs.Ytnnelmjlmjedhaa.State Go.Proofs.Ytnnelmjlmjedhaa.Vals
set_option linter.unusedVariables false
attribute [local go_sem] max2_int min2_int max_two min_two

section
variable {W : World} {B2 g gc n : Nat} {w : World} {x : Int} {vs : List Int} {t : Bool}
theorem Ar.slice (h : Ar W B2 g gc n w (x :: vs) t) : w.cell? ⟨g, 0, none⟩ = some (.slice (some ⟨gc, 0, none⟩) n n) := by
  obtain ⟨TV, h1, h2⟩ := h.box
  exact h1.cell 0
theorem Ar.first (h : Ar W B2 g gc n w (x :: vs) t) : w.cell? ⟨gc, 0, none⟩ = some (.int .u64 x) := h.cells.cell (i := 0) (by simp)
theorem Ar.put (h : Ar W B2 g gc n w (x :: vs) t) (y : Int) : Ar W B2 g gc n (w.setCell ⟨gc, 0, none⟩ (.int .u64 y)) (y :: vs) t := by
  obtain ⟨⟨TV, h1, h2⟩, h3, h4, h5, h6, h7, h8, h9, h10⟩ := h
  exact ⟨⟨TV, h1.other _ h5, own_keep h2 (fun k hk _ => set_ne k (by show k ≠ gc; omega))⟩, h3.set 0 y, h4, h5, h6, h7, h8, h9.setCell h7.2 _, by simpa [World.setCell] using h10⟩
end
theorem write_at {W : World} {B2 g gc n : Nat} {w : World} {x : Int} {vs : List Int} {t : Bool} (y : Int) (h : Ar W B2 g gc n w (x :: vs) t) :
    Calls Try.prog 20 #[.pointer (some ⟨g, 0, none⟩), .int .i64 0, .int .u64 y] w fun r w' => r = .returned (.tuple #[]) ∧ Ar W B2 g gc n w' (y :: vs) true := by
  have H := Aside0.mk h
  have hn0 : 0 < n := by have := h.pos; omega
  clear h
  go_enter Try.func20, Try.ntmps20
  go_wp2_with (first | (go_at_call 53; with_reducible refine (touch_at H.out).mono ?_; rintro e w1 ⟨rfl, hA⟩; have c0 := hA.slice; have c1 := hA.first; have f1 := hA.cells.free 0; have HA := Aside0.mk hA; clear hA))
  go_end0
  exact ⟨rfl, HA.out.put y⟩
theorem read_at {W : World} {B2 g gc n : Nat} {w : World} {x : Int} {vs : List Int} {t : Bool} (h : Ar W B2 g gc n w (x :: vs) t) :
    Calls Try.prog 16 #[.pointer (some ⟨g, 0, none⟩), .int .i64 0] w fun r w' => r = .returned (.int .u64 x) ∧ Ar W B2 g gc n w' (x :: vs) true := by
  have H := Aside0.mk h
  have hn0 : 0 < n := by have := h.pos; omega
  clear h
  go_enter Try.func16, Try.ntmps16
  go_wp2_with (first | (go_at_call 53; with_reducible refine (touch_at H.out).mono ?_; rintro e w1 ⟨rfl, hA⟩; have c0 := hA.slice; have c1 := hA.first; have HA := Aside0.mk hA; clear hA))
  go_ret
  exact ⟨rfl, HA.out⟩
theorem swap_yes {W : World} {B2 g gc n : Nat} {w : World} {x : Int} {vs : List Int} {t : Bool} (y : Int) (h : Ar W B2 g gc n w (x :: vs) t) :
    Calls Try.prog 17 #[.pointer (some ⟨g, 0, none⟩), .int .i64 0, .int .u64 x, .int .u64 y] w fun r w' => r = .returned (.bool true) ∧ Ar W B2 g gc n w' (y :: vs) true := by
  have H := Aside0.mk h
  have hn0 : 0 < n := by have := h.pos; omega
  clear h
  go_enter Try.func17, Try.ntmps17
  go_wp2_with (first | (go_at_call 53; with_reducible refine (touch_at H.out).mono ?_; rintro e w1 ⟨rfl, hA⟩; have c0 := hA.slice; have c1 := hA.first; have f1 := hA.cells.free 0; have HA := Aside0.mk hA; clear hA))
  go_ret
  exact ⟨rfl, HA.out.put y⟩
theorem swap_no {W : World} {B2 g gc n : Nat} {w : World} {x : Int} {vs : List Int} {t : Bool} (y z : Int) (h : Ar W B2 g gc n w (x :: vs) t) (hne : x ≠ y) :
    Calls Try.prog 17 #[.pointer (some ⟨g, 0, none⟩), .int .i64 0, .int .u64 y, .int .u64 z] w fun r w' => r = .returned (.bool false) ∧ Ar W B2 g gc n w' (x :: vs) true := by
  have H := Aside0.mk h
  have hn0 : 0 < n := by have := h.pos; omega
  have hb : (x == y) = false := by rw [beq_eq_false_iff_ne]; exact hne
  clear h hne
  go_enter Try.func17, Try.ntmps17
  go_wp2_with (first | (go_at_call 53; with_reducible refine (touch_at H.out).mono ?_; rintro e w1 ⟨rfl, hA⟩; have c0 := hA.slice; have c1 := hA.first; have f1 := hA.cells.free 0; have HA := Aside0.mk hA; clear hA))
  go_ret
  exact ⟨rfl, HA.out⟩
set_option maxRecDepth 4000 in
theorem clone_one (ad : Addr) (c : Nat) (L : List Int) (w0 : World) (hr : ReadsInt w0 .i64 (some ad) 1 L) : Calls Try.prog 54 #[.slice (some ad) 1 c] w0 fun r w' => (∃ A c, r = .returned (.slice A 1 c)) ∧ Below w0.heap.size w0 w' := by
  have L5 := Aside0.mk (own_lit w0 w0.heap.size 3 .i64 [] (Nat.le_refl _) (by simp))
  have RD5 := Aside0.mk (hr.allocS (.cells #[] 3))
  have BB5 := Aside0.mk (show Below w0.heap.size w0 (w0.alloc (.cells #[] 3)) from (Below.refl _ _).alloc (Nat.le_refl _) _)
  have HL := Aside0.mk hr.1
  have hcmp : ∀ W : World, (binOp .eql 26 (.slice (some ad) 1 c) (.slice none 0 0)).run Try.prog W = .ok (.bool false) W := fun W => by kernel_rfl
  clear hr
  go_enter Try.func54, Try.ntmps54
  go_wp2_with (first
    | ((with_reducible refine gate_builtin (b := .append) (xs := #[.tmp 5, .tmp 6]) rfl ?_); at_builtin; refine print_append_row (w0 := w0) w0.heap.size rfl (.tmp 5) (.tmp 6) 26 3 .i64 8 rfl Try.underlying26 info3 (by decide) (.slice (some ⟨w0.heap.size, 0, none⟩) 0 0) [] L (some ad) 1 c rfl rfl L5.out RD5.out BB5.out (by simp) (by simp) ?_; intro v1 w6 ho6 hb6 hg hat; clear hg hat; rw [List.nil_append, HL.out] at ho6; obtain ⟨A1, c3, hv1, hrd1⟩ := own_reads ho6; subst hv1; have HB6 := Aside0.mk hb6; clear ho6 hb6 hrd1))
  go_ret
  exact ⟨⟨_, _, rfl⟩, HB6.out⟩
/-- A copy of the one that was touched. -/
theorem touched_at {W : World} {B2 g gc n : Nat} {w : World} {vals : List Int} (h : Ar W B2 g gc n w vals true) :
    Calls Try.prog 21 #[.pointer (some ⟨g, 0, none⟩)] w fun r w' => (∃ A c, r = .returned (.slice A 1 c)) ∧ Below w.heap.size w w' := by
  obtain ⟨⟨TV, h1, h2⟩, h3, h4, h5, h6, h7, h8, h9, h10⟩ := h
  obtain ⟨A, c, hTV, hrd⟩ := own_reads h2
  subst hTV
  obtain ⟨ad, rfl, _⟩ := hrd.2.2 (by simp [tl])
  have c1 : w.cell? ⟨g, 1, none⟩ = some (.slice (some ad) 1 c) := h1.cell 1
  have HRD := Aside0.mk (show ReadsInt w .i64 (some ad) 1 [0] from hrd)
  clear h1 h2 h3 h4 h5 h6 h7 h8 h9 h10 hrd
  go_enter Try.func21, Try.ntmps21
  go_wp2_with (first | (go_at_call 54; with_reducible refine (clone_one ad c [0] _ HRD.out).mono ?_; rintro e w1 ⟨⟨A1, c2, rfl⟩, hb⟩))
  go_ret
  exact ⟨⟨_, _, rfl⟩, hb⟩
set_option maxHeartbeats 1000000 in
theorem awake_calls (w : World) : Calls Try.prog 24 #[] w fun r w' => r = .returned (.bool true) ∧ Below w.heap.size w w' := by
  go_enter Try.func24, Try.ntmps24
  go_wp2_with fail
  refine (new_some 2 w (by decide)).mono ?_
  rintro e w1 ⟨g, gc, rfl, hA⟩
  generalize w1.heap.size = B2 at hA
  have H1 := Aside0.mk (show Ar w B2 g gc 2 w1 (0 :: [0]) false from hA)
  clear hA
  go_wp2_with fail
  refine (write_at 5 H1.out).mono ?_
  rintro e w2 ⟨rfl, hA⟩
  have H2 := Aside0.mk hA
  clear hA
  go_wp2_with fail
  refine (swap_yes 6 H2.out).mono ?_
  rintro e w3 ⟨rfl, hA⟩
  have H3 := Aside0.mk hA
  clear hA
  go_wp2_with fail
  refine (swap_no 5 7 H3.out (by decide)).mono ?_
  rintro e w4 ⟨rfl, hA⟩
  have H4 := Aside0.mk hA
  clear hA
  go_wp2_with fail
  refine (read_at H4.out).mono ?_
  rintro e w5 ⟨rfl, hA⟩
  have H5 := Aside0.mk hA
  clear hA
  go_wp2_with fail
  refine (touched_at H5.out).mono ?_
  rintro e w6 ⟨⟨A1, c2, rfl⟩, hb⟩
  have HB := Aside0.mk (H5.out.below.trans (hb.mono H5.out.below.size))
  clear hb
  go_wp2_with fail
  go_ret
  exact ⟨rfl, HB.out⟩
end Go.Proofs.Ytnnelmjlmjedhaa.Arena
