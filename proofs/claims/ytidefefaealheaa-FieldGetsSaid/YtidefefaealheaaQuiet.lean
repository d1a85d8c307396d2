/- A region whose operations may come up in any order, and whose calls make memory of their own alone: what a callee's contract gives there. -/
import Derived.Below
import Derived.Deep.Quiet
import Derived.BigQuiet
import Derived.Deep.Draws
namespace Go.Proofs.Ytidefefaealheaa.Quiet
open Go Go.RowKit

theorem below_drewN {B : Nat} {a w : World} (h : Below B a w) (n : Nat) : Below B a (w.drewN n) := ⟨h.os, h.tape, h.output, h.size, h.block⟩
theorem q_below {P : Program} {f : FuncId} {args : Array Value} {v : Value} {w0 x : World} (hw : Below w0.heap.size w0 x) (h : Calls P f args x fun e w' => e = .returned v ∧ Below x.heap.size x w') :
    Calls P f args x fun e w' => e = .returned v ∧ Below w0.heap.size w0 w' := h.mono fun _ _ ⟨he, hb⟩ => ⟨he, hw.trans (hb.mono hw.size)⟩
theorem q_drawn {P : Program} {f : FuncId} {args : Array Value} {v : Value} {w0 x : World} (hw : Below w0.heap.size w0 x) (h : Calls P f args x fun e w' => e = .returned v ∧ ∃ n, w' = x.drewN n) :
    Calls P f args x fun e w' => e = .returned v ∧ Below w0.heap.size w0 w' := h.mono fun _ _ ⟨he, n, hb⟩ => ⟨he, by subst hb; exact below_drewN hw n⟩
theorem q_same {P : Program} {f : FuncId} {args : Array Value} {v : Value} {w0 x : World} (hw : Below w0.heap.size w0 x) (h : Calls P f args x fun e w' => e = .returned v ∧ w' = x) :
    Calls P f args x fun e w' => e = .returned v ∧ Below w0.heap.size w0 w' := h.mono fun _ _ ⟨he, hb⟩ => ⟨he, by subst hb; exact hw⟩
/-- A region that draws its order, walked in the text's order, in worlds that are as this one below its own height. -/
theorem wp_region_below {P : Program} {id : Nat} {l : List Oper} {Q : Exit → Act → World → Prop} {a : Act} {w : World} (hm : P.follows .mixedOrders = true) (hB : Region.lexB .any l.toArray = true)
    (h : wpQuiet P l.toArray (fun x => Below w.heap.size w x) (fun a' => ∀ w', Below w.heap.size w w' → Q .normal a' w') l a) : (Code.region id l.toArray true).wp P Q a w :=
  wp_region_quiet (C := fun x => Below w.heap.size w x) hm hB (Below.refl _ _).drew (by simpa using h)
end Go.Proofs.Ytidefefaealheaa.Quiet
