/- A region whose operations may come up in any order, and whose calls make memory of their own alone: what a callee's contract gives there. -/
import Derived.Below
import Derived.Deep.Quiet
import Derived.BigQuiet
import Derived.Deep.Draws
namespace Go.Proofs.Ytbhnpabanfbalaa.Quiet
open Go Go.RowKit

theorem below_drewN {B : Nat} {a w : World} (h : Below B a w) (n : Nat) : Below B a (w.drewN n) := ⟨h.os, h.tape, h.output, h.size, h.block⟩
theorem q_below {P : Program} {f : FuncId} {args : Array Value} {v : Value} {w0 x : World} (hw : Below w0.heap.size w0 x) (h : Calls P f args x fun e w' => e = .returned v ∧ Below x.heap.size x w') :
    Calls P f args x fun e w' => e = .returned v ∧ Below w0.heap.size w0 w' := h.mono fun _ _ ⟨he, hb⟩ => ⟨he, hw.trans (hb.mono hw.size)⟩
theorem q_drawn {P : Program} {f : FuncId} {args : Array Value} {v : Value} {w0 x : World} (hw : Below w0.heap.size w0 x) (h : Calls P f args x fun e w' => e = .returned v ∧ ∃ n, w' = x.drewN n) :
    Calls P f args x fun e w' => e = .returned v ∧ Below w0.heap.size w0 w' := h.mono fun _ _ ⟨he, n, hb⟩ => ⟨he, by subst hb; exact below_drewN hw n⟩
theorem q_same {P : Program} {f : FuncId} {args : Array Value} {v : Value} {w0 x : World} (hw : Below w0.heap.size w0 x) (h : Calls P f args x fun e w' => e = .returned v ∧ w' = x) :
    Calls P f args x fun e w' => e = .returned v ∧ Below w0.heap.size w0 w' := h.mono fun _ _ ⟨he, hb⟩ => ⟨he, by subst hb; exact hw⟩
/-- A region that draws its order, walked in the text's order, in worlds that are as this one below its own height. -/
theorem wp_region_below {P : Program} {id : Nat} {l : List Oper} {Q : Exit → Act → World → Prop} {a : Act} {w : World} (hm : P.follows .mixedOrders = true) (hB : Region.lexB .any l.toArray = true)
    (h : wpQuiet P l.toArray (fun x => Below w.heap.size w x) (fun a' => ∀ w', Below w.heap.size w w' → Q .normal a' w') l a) : (Code.region id l.toArray true).wp P Q a w :=
  wp_region_quiet (C := fun x => Below w.heap.size w x) hm hB (Below.refl _ _).drew (by simpa using h)

/-- A block's cells. -/
theorem cell_blk {w : World} {g : Nat} {cs : Array Value} {t : TypeId} {fr : Nat × Nat} (h : w.heap[g]? = some (.cells cs t fr)) (i : Nat) : w.cell? ⟨g, i, none⟩ = cs[i]? := by
  simp [World.cell?, h]
theorem heap_new (w : World) (o : Obj) : (w.alloc o).heap[w.heap.size]? = some o := by
  show (w.heap.push o)[w.heap.size]? = some o
  simp
theorem heap_new' {w : World} {n : Nat} (o : Obj) (h : w.heap.size = n) : (w.alloc o).heap[n]? = some o := h ▸ heap_new w o
theorem blk_lt {w : World} {o : Obj} {k : Nat} (h : w.heap[k]? = some o) : k < w.heap.size := by
  rcases Nat.lt_or_ge k w.heap.size with hk | hk
  · exact hk
  · rw [Array.getElem?_eq_none hk] at h; simp at h
theorem heap_old {w : World} {o o' : Obj} {k : Nat} (h : w.heap[k]? = some o') : (w.alloc o).heap[k]? = some o' := (Below.heap_alloc w o k (blk_lt h)).trans h
theorem carry {B : Nat} {W C X w : World} (h : Below B W C) (k : Below B X w) (h1 : X.heap = C.heap) (h2 : X.os = C.os) (h3 : X.tape = C.tape) (h4 : X.output = C.output) : Below B W w :=
  h.trans (Below.trans ⟨h2, h3, h4, by rw [h1]; exact Nat.le_refl _, fun _ _ => by rw [h1]⟩ k)
/-- A block that was there is as it was. -/
theorem Below.blk {B k : Nat} {w w' : World} {o : Obj} (hb : Below B w w') (hk : k < B) (h : w.heap[k]? = some o) : w'.heap[k]? = some o := (hb.block k hk).trans h
end Go.Proofs.Ytbhnpabanfbalaa.Quiet
