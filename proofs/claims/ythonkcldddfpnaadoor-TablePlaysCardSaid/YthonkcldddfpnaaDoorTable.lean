/- A table of slots: contracts of its functions, over its blocks in memory. -/
import Derived.Test.YthonkcldddfpnaaDoorFree3
import Derived.Test.YthonkcldddfpnaaDoorSettle
import Derived.Test.YthonkcldddfpnaaDoorPTableMayx1
namespace Go.Proofs.YthonkcldddfpnaaDoor.Table
open Go.RowKit Go.Proofs.YthonkcldddfpnaaDoorW.PrintWords Go.Proofs.YthonkcldddfpnaaDoorW.PrintLast Go.Proofs.YthonkcldddfpnaaDoorW.PrintMore Go.Proofs.YthonkcldddfpnaaDoor.Aid Go.Proofs.YthonkcldddfpnaaDoor.Quiet Go.Proofs.YthonkcldddfpnaaDoor.Blk Go.Proofs.YthonkcldddfpnaaDoor.State Go.Proofs.YthonkcldddfpnaaDoor.Vals Go.Proofs.YthonkcldddfpnaaDoor.SlotF Go.Proofs.YthonkcldddfpnaaDoor.Free
set_option linter.unusedVariables false
set_option linter.unusedSimpArgs false

/-- A table's own 21 cells. -/
def tbV (base slots gens : Int) (f : Nat) (out : List Bool) (ret : Int) : List Value := .int .i64 base :: .int .i64 slots :: .int .i64 gens :: .pointer (some ⟨f, 0, none⟩) :: (out.map .bool ++ [.int .i64 ret])
structure Tb (w : World) (t f fl fh : Nat) (base gens : Int) (k : Nat) (q : List Nat) (out : List Bool) (ret : Int) : Prop where
  box : HoldsV 104 w t (tbV base k gens f out ret)
  fr : FreeAt w f fl fh k q
  len : out.length = 16
  ne : t ≠ f ∧ t ≠ fl ∧ t ≠ fh
  k16 : 1 ≤ k ∧ k ≤ 16
  b : 0 ≤ base ∧ base ≤ 16384
  r : 0 ≤ ret ∧ ret ≤ 1000
section
variable {w w' : World} {t f fl fh k : Nat} {base gens ret : Int} {q : List Nat} {out : List Bool}
theorem Tb.below' (h : Tb w t f fl fh base gens k q out ret) (hb : Below w.heap.size w w') : Tb w' t f fl fh base gens k q out ret := ⟨h.box.below' hb, h.fr.below' hb, h.len, h.ne, h.k16, h.b, h.r⟩
theorem Tb.c0 (h : Tb w t f fl fh base gens k q out ret) : w.cell? ⟨t, 0, none⟩ = some (.int .i64 base) := h.box.cell 0
theorem Tb.c1 (h : Tb w t f fl fh base gens k q out ret) : w.cell? ⟨t, 1, none⟩ = some (.int .i64 (k : Int)) := h.box.cell 1
theorem Tb.c2 (h : Tb w t f fl fh base gens k q out ret) : w.cell? ⟨t, 2, none⟩ = some (.int .i64 gens) := h.box.cell 2
theorem Tb.c3 (h : Tb w t f fl fh base gens k q out ret) : w.cell? ⟨t, 3, none⟩ = some (.pointer (some ⟨f, 0, none⟩)) := h.box.cell 3
theorem Tb.co (h : Tb w t f fl fh base gens k q out ret) (i : Nat) (hi : i < 16) : w.cell? ⟨t, 4 + i, none⟩ = some (.bool (out[i]?.getD false)) := by
  have hl := h.len
  rw [h.box.cell, tbV, Nat.add_comm 4 i]
  simp only [List.getElem?_cons_succ]
  rw [List.getElem?_append_left (by simp; omega), List.getElem?_map, List.getElem?_eq_getElem (show i < out.length by omega)]
  simp [show i < out.length by omega]
theorem Tb.cr (h : Tb w t f fl fh base gens k q out ret) : w.cell? ⟨t, 20, none⟩ = some (.int .i64 ret) := by
  have hl := h.len
  rw [h.box.cell, tbV]
  simp only [List.getElem?_cons_succ]
  rw [List.getElem?_append_right (by simp; omega)]
  simp [hl]
/-- One is out, or is back. -/
theorem Tb.put (h : Tb w t f fl fh base gens k q out ret) (i : Nat) (b : Bool) (hi : i < 16) : Tb (w.setCell ⟨t, 4 + i, none⟩ (.bool b)) t f fl fh base gens k q (out.set i b) ret := by
  have hl := h.len
  refine ⟨?_, h.fr.moved fun x hx => Below.heap_setCell w _ _ x (by have := h.ne; rcases hx with rfl | rfl | rfl <;> simp <;> omega), by simpa using hl, h.ne, h.k16, h.b, h.r⟩
  have h1 := h.box.set (4 + i) (.bool b)
  rw [tbV, Nat.add_comm 4 i] at h1
  simp only [List.set_cons_succ] at h1
  rw [List.set_append_left _ _ (by simp; omega), ← List.map_set] at h1
  rw [Nat.add_comm 4 i]
  exact h1
theorem Tb.retire (h : Tb w t f fl fh base gens k q out ret) (hr : ret ≤ 999) : Tb (w.setCell ⟨t, 20, none⟩ (.int .i64 (ret + 1))) t f fl fh base gens k q out (ret + 1) := by
  have hl := h.len
  refine ⟨?_, h.fr.moved fun x hx => Below.heap_setCell w _ _ x (by have := h.ne; rcases hx with rfl | rfl | rfl <;> simp <;> omega), hl, h.ne, h.k16, h.b, by have := h.r; omega⟩
  have h1 := h.box.set 20 (.int .i64 (ret + 1))
  rw [tbV] at h1
  simp only [List.set_cons_succ] at h1
  rw [List.set_append_right _ _ (by simp; omega)] at h1
  simp only [List.length_map, hl] at h1
  exact h1
/-- The free numbers' blocks alone were changed. -/
theorem Tb.free {q2 : List Nat} (h : Tb w t f fl fh base gens k q out ret) (hf : FreeAt w' f fl fh k q2) (ho : OnlyIn [f, fl, fh] w w') : Tb w' t f fl fh base gens k q2 out ret :=
  ⟨ho.blk (by have := h.ne; simp; omega) h.box, hf, h.len, h.ne, h.k16, h.b, h.r⟩
end
theorem cell_nil (i : Int) (w : World) : Calls Tryd.prog 44 #[.pointer none, .int .i64 i] w fun r w' => r = .returned (.int .i64 (-1)) ∧ Below w.heap.size w w' := by
  go_enter Tryd.func44, Tryd.ntmps44
  go_wp2_with fail
  go_ret
  exact ⟨rfl, by first | exact below_drewN (Below.refl _ _) _ | exact Below.refl _ _⟩
theorem most_nil (w : World) : Calls Tryd.prog 47 #[.pointer none] w fun r w' => r = .returned (.int .i64 0) ∧ Below w.heap.size w w' := by
  go_enter Tryd.func47, Tryd.ntmps47
  go_wp2_with fail
  go_ret
  exact ⟨rfl, by first | exact below_drewN (Below.refl _ _) _ | exact Below.refl _ _⟩
theorem free_nil (w : World) : Calls Tryd.prog 40 #[.pointer none] w fun r w' => r = .returned (.int .i64 0) ∧ Below w.heap.size w w' := by
  go_enter Tryd.func40, Tryd.ntmps40
  go_wp2_with fail
  go_ret
  exact ⟨rfl, by first | exact below_drewN (Below.refl _ _) _ | exact Below.refl _ _⟩
theorem retired_nil (w : World) : Calls Tryd.prog 41 #[.pointer none] w fun r w' => r = .returned (.int .i64 0) ∧ Below w.heap.size w w' := by
  go_enter Tryd.func41, Tryd.ntmps41
  go_wp2_with fail
  go_ret
  exact ⟨rfl, by first | exact below_drewN (Below.refl _ _) _ | exact Below.refl _ _⟩
theorem pick_nil (w : World) : Calls Tryd.prog 39 #[.pointer none] w fun r w' => r = .returned (.tuple #[.int .i64 0, .bool false]) ∧ Below w.heap.size w w' := by
  go_enter Tryd.func39, Tryd.ntmps39
  go_wp2_with fail
  go_ret2
  exact ⟨rfl, by first | exact below_drewN (Below.refl _ _) _ | exact Below.refl _ _⟩
theorem live_nil (v : Value) (w : World) : Calls Tryd.prog 46 #[.pointer none, v] w fun r w' => r = .returned (.int .i64 0) ∧ Below w.heap.size w w' := by
  go_enter Tryd.func46, Tryd.ntmps46
  go_wp2_with fail
  go_ret
  exact ⟨rfl, by first | exact below_drewN (Below.refl _ _) _ | exact Below.refl _ _⟩
section
variable {w : World} {t f fl fh k : Nat} {base gens ret : Int} {q : List Nat} {out : List Bool}
theorem cell_in (i : Nat) (hi : i < k) (h : Tb w t f fl fh base gens k q out ret) : Calls Tryd.prog 44 #[.pointer (some ⟨t, 0, none⟩), .int .i64 (i : Int)] w fun r w' => r = .returned (.int .i64 (base + i)) ∧ Below w.heap.size w w' := by
  have c0 := h.c0
  have c1 := h.c1
  have hb := h.b
  have hk := h.k16
  have d1 : decide ((i : Int) < 0) = false := decide_eq_false (by omega)
  have d2 : decide ((k : Int) ≤ (i : Int)) = false := decide_eq_false (by omega)
  have k1 : IntKind.i64.wrap (base + (i : Int)) = base + i := by rw [IntKind.wrap_i64]; omega
  clear h hb hk
  go_enter Tryd.func44, Tryd.ntmps44
  go_wp2_with fail
  go_ret
  exact ⟨rfl, by first | exact below_drewN (Below.refl _ _) _ | exact Below.refl _ _⟩
theorem cell_out (i : Int) (hi : i < 0 ∨ (k : Int) ≤ i) (h : Tb w t f fl fh base gens k q out ret) : Calls Tryd.prog 44 #[.pointer (some ⟨t, 0, none⟩), .int .i64 i] w fun r w' => r = .returned (.int .i64 (-1)) ∧ Below w.heap.size w w' := by
  have c0 := h.c0
  have c1 := h.c1
  clear h
  by_cases h0 : i < 0
  · have d1 : decide (i < 0) = true := decide_eq_true h0
    go_enter Tryd.func44, Tryd.ntmps44
    go_wp2_with fail
    go_ret
    exact ⟨rfl, by first | exact below_drewN (Below.refl _ _) _ | exact Below.refl _ _⟩
  · have d1 : decide (i < 0) = false := decide_eq_false h0
    have d2 : decide ((k : Int) ≤ i) = true := decide_eq_true (by omega)
    go_enter Tryd.func44, Tryd.ntmps44
    go_wp2_with fail
    go_ret
    exact ⟨rfl, by first | exact below_drewN (Below.refl _ _) _ | exact Below.refl _ _⟩
theorem most_at (h : Tb w t f fl fh base gens k q out ret) : Calls Tryd.prog 47 #[.pointer (some ⟨t, 0, none⟩)] w fun r w' => r = .returned (.int .i64 gens) ∧ Below w.heap.size w w' := by
  have c2 := h.c2
  clear h
  go_enter Tryd.func47, Tryd.ntmps47
  go_wp2_with fail
  go_ret
  exact ⟨rfl, by first | exact below_drewN (Below.refl _ _) _ | exact Below.refl _ _⟩
theorem retired_at (h : Tb w t f fl fh base gens k q out ret) : Calls Tryd.prog 41 #[.pointer (some ⟨t, 0, none⟩)] w fun r w' => r = .returned (.int .i64 ret) ∧ Below w.heap.size w w' := by
  have c := h.cr
  clear h
  go_enter Tryd.func41, Tryd.ntmps41
  go_wp2_with fail
  go_ret
  exact ⟨rfl, by first | exact below_drewN (Below.refl _ _) _ | exact Below.refl _ _⟩
theorem free_at (h : Tb w t f fl fh base gens k q out ret) : Calls Tryd.prog 40 #[.pointer (some ⟨t, 0, none⟩)] w fun r w' => r = .returned (.int .i64 (q.length : Int)) ∧ Below w.heap.size w w' := by
  have c3 := h.c3
  have LN := Aside0.mk (len_at f fl fh k q w h.fr)
  clear h
  go_enter Tryd.func40, Tryd.ntmps40
  go_wp2_with fail
  refine LN.out.mono ?_
  rintro e w1 ⟨rfl, n1, rfl⟩
  go_wp2_with fail
  go_ret
  exact ⟨rfl, by first | exact below_drewN (Below.refl _ _) _ | exact below_drewN (below_drewN (Below.refl _ _) _) _⟩
theorem pick_none (h : Tb w t f fl fh base gens k [] out ret) : Calls Tryd.prog 39 #[.pointer (some ⟨t, 0, none⟩)] w fun r w' => r = .returned (.tuple #[.int .i64 0, .bool false]) ∧ Tb w' t f fl fh base gens k [] out ret ∧ OnlyIn [t, f, fl, fh] w w' := by
  have c3 := h.c3
  have TK := Aside0.mk (take_not f fl fh k w h.fr)
  have H := Aside0.mk h
  clear h
  go_enter Tryd.func39, Tryd.ntmps39
  go_wp2_with fail
  refine TK.out.mono ?_
  rintro e w1 ⟨rfl, n1, rfl⟩
  go_wp2_with fail
  go_ret2
  first
    | exact ⟨rfl, H.out.below' (below_drewN (Below.refl _ _) _), OnlyIn.of_below (below_drewN (Below.refl _ _) _)⟩
    | exact ⟨rfl, H.out.below' (below_drewN (below_drewN (Below.refl _ _) _) _), OnlyIn.of_below (below_drewN (below_drewN (Below.refl _ _) _) _)⟩
theorem pick_some (x : Nat) (h : Tb w t f fl fh base gens k (x :: q) out ret) : Calls Tryd.prog 39 #[.pointer (some ⟨t, 0, none⟩)] w fun r w' => r = .returned (.tuple #[.int .i64 (x : Int), .bool true]) ∧ Tb w' t f fl fh base gens k q (out.set x true) ret ∧ OnlyIn [t, f, fl, fh] w w' := by
  have c3 := h.c3
  have TK := Aside0.mk (take_at f fl fh k x q w h.fr)
  have hx : x < 16 := by have := h.fr.low x (by simp); have := h.k16; omega
  have H := Aside0.mk h
  clear h
  go_enter Tryd.func39, Tryd.ntmps39
  go_wp2_with fail
  refine TK.out.mono ?_
  rintro e w1 ⟨rfl, hf, ho⟩
  have H1 := Aside0.mk (H.out.free hf ho)
  have O1 := Aside0.mk (show OnlyIn [t, f, fl, fh] w w1 from ⟨ho.os, ho.tape, ho.output, ho.size, fun b hb hn => ho.block b hb (by simp at hn ⊢; omega)⟩)
  have cx := H1.out.co x hx
  have fx := H1.out.box.free (4 + x)
  clear hf ho
  go_wp2_with fail
  go_ret2
  exact ⟨rfl, H1.out.put x true hx, O1.out.set _ _ (by simp)⟩
end
end Go.Proofs.YthonkcldddfpnaaDoor.Table
