/- What a call may turn that works on one block alone. -/
import Derived.Below
import Derived.Laws.Rows
import Derived.Test.YtbhnpabanfbalaaQuiet
namespace Go.Proofs.Ytbhnpabanfbalaa.State
open Go Go.RowKit Go.Proofs.Ytbhnpabanfbalaa.Quiet

/-- w' is w, but for block g, and for blocks that are new. -/
structure OnlyAt (g : Nat) (w w' : World) : Prop where
  os : w'.os = w.os
  tape : w'.tape = w.tape
  output : w'.output = w.output
  size : w.heap.size ≤ w'.heap.size
  block : ∀ k, k < w.heap.size → k ≠ g → w'.heap[k]? = w.heap[k]?
theorem OnlyAt.refl (g : Nat) (w : World) : OnlyAt g w w := ⟨rfl, rfl, rfl, Nat.le_refl _, fun _ _ _ => rfl⟩
theorem OnlyAt.trans {g : Nat} {a b c : World} (h : OnlyAt g a b) (k : OnlyAt g b c) : OnlyAt g a c :=
  ⟨k.os.trans h.os, k.tape.trans h.tape, k.output.trans h.output, Nat.le_trans h.size k.size, fun i hi hg => (k.block i (Nat.lt_of_lt_of_le hi h.size) hg).trans (h.block i hi hg)⟩
theorem OnlyAt.drewN {g : Nat} {a b : World} (h : OnlyAt g a b) (n : Nat) : OnlyAt g a (b.drewN n) := ⟨h.os, h.tape, h.output, h.size, h.block⟩
theorem OnlyAt.drew {g : Nat} {a b : World} (h : OnlyAt g a b) : OnlyAt g a b.drew := ⟨h.os, h.tape, h.output, h.size, h.block⟩
theorem OnlyAt.set {g : Nat} {a b : World} (h : OnlyAt g a b) (i : Nat) (v : Value) : OnlyAt g a (b.setCell ⟨g, i, none⟩ v) :=
  ⟨h.os, h.tape, h.output, by simpa [World.setCell] using h.size, fun k hk hg => (Below.heap_setCell b ⟨g, i, none⟩ v k hg).trans (h.block k hk hg)⟩
theorem OnlyAt.alloc {g : Nat} {a b : World} (h : OnlyAt g a b) (o : Obj) : OnlyAt g a (b.alloc o) :=
  ⟨h.os, h.tape, h.output, Nat.le_trans h.size (by simp), fun k hk hg => (Below.heap_alloc b o k (Nat.lt_of_lt_of_le hk h.size)).trans (h.block k hk hg)⟩
theorem OnlyAt.of_below {g : Nat} {a b : World} (h : Below a.heap.size a b) : OnlyAt g a b := ⟨h.os, h.tape, h.output, h.size, fun k hk _ => h.block k hk⟩
theorem OnlyAt.below {g B : Nat} {W a b : World} (h : OnlyAt g a b) (k : Below B W a) (hg : B ≤ g) (hB : B ≤ a.heap.size) : Below B W b :=
  k.trans ⟨h.os, h.tape, h.output, h.size, fun i hi => h.block i (by omega) (by omega)⟩
theorem OnlyAt.blk {g k : Nat} {w w' : World} {o : Obj} (h : OnlyAt g w w') (hk : k ≠ g) (hb : w.heap[k]? = some o) : w'.heap[k]? = some o := (h.block k (Quiet.blk_lt hb) hk).trans hb
theorem OnlyAt.alike {g : Nat} {a b c : World} (h : OnlyAt g a b) (k : c.heap = b.heap) (k1 : c.os = b.os) (k2 : c.tape = b.tape) (k3 : c.output = b.output) : OnlyAt g a c :=
  ⟨k1.trans h.os, k2.trans h.tape, k3.trans h.output, by rw [k]; exact h.size, fun i hi hg => by rw [k]; exact h.block i hi hg⟩
theorem set_blk {w : World} {g i : Nat} {cs : Array Value} {t : TypeId} (v : Value) (h : w.heap[g]? = some (.cells cs t (0, 0))) : (w.setCell ⟨g, i, none⟩ v).heap[g]? = some (.cells (cs.setIfInBounds i v) t (0, 0)) :=
  heap_setCell_same w g i cs t v h
theorem set_other {w : World} {k : Nat} {p : Addr} {o : Obj} (v : Value) (h : w.heap[k]? = some o) (hk : k ≠ p.block) : (w.setCell p v).heap[k]? = some o := (Below.heap_setCell w p v k hk).trans h
theorem free_blk {w : World} {g : Nat} {cs : Array Value} {t : TypeId} (h : w.heap[g]? = some (.cells cs t (0, 0))) (i : Nat) : w.frozen? ⟨g, i, none⟩ = false := by simp [World.frozen?, h]
/-- One and the same, but for the count of draws. -/
structure SameMem (a b : World) : Prop where
  heap : b.heap = a.heap
  os : b.os = a.os
  tape : b.tape = a.tape
  output : b.output = a.output
theorem OnlyAt.same {g : Nat} {a b c : World} (h : OnlyAt g a b) (k : SameMem b c) : OnlyAt g a c := h.alike k.heap k.os k.tape k.output
theorem SameMem.blk {k : Nat} {a b : World} {o : Obj} (h : SameMem a b) (hb : a.heap[k]? = some o) : b.heap[k]? = some o := by rw [h.heap]; exact hb
end Go.Proofs.Ytbhnpabanfbalaa.State
