/- A block of values in memory as a list; what a call may turn that works on some blocks alone. -/
import Derived.Below
import Derived.Laws.Rows
import Derived.Test.YtbhnpabanfbalaaQuiet
import Derived.Test.YtbhnpabanfbalaaState
namespace Go.Proofs.Ytbhnpabanfbalaa.Vals
open Go Go.RowKit Go.Proofs.Ytbhnpabanfbalaa.Quiet Go.Proofs.Ytbhnpabanfbalaa.State

/-- The block g holds the values vs. -/
def HoldsV (t : TypeId) (w : World) (g : Nat) (vs : List Value) : Prop := w.heap[g]? = some (.cells vs.toArray t (0, 0))
theorem HoldsV.cell {t : TypeId} {w : World} {g : Nat} {vs : List Value} (h : HoldsV t w g vs) (i : Nat) : w.cell? ⟨g, i, none⟩ = vs[i]? := by
  rw [cell_blk h]; simp
theorem HoldsV.free {t : TypeId} {w : World} {g : Nat} {vs : List Value} (h : HoldsV t w g vs) (i : Nat) : w.frozen? ⟨g, i, none⟩ = false := by
  have h' : w.heap[g]? = some (.cells vs.toArray t (0, 0)) := h
  simp [World.frozen?, h']
theorem HoldsV.set {t : TypeId} {w : World} {g : Nat} {vs : List Value} (h : HoldsV t w g vs) (j : Nat) (v : Value) : HoldsV t (w.setCell ⟨g, j, none⟩ v) g (vs.set j v) := by
  unfold HoldsV
  rw [heap_setCell_same w g j _ t v h]
  simp
theorem HoldsV.again {t : TypeId} {w : World} {g : Nat} {vs : List Value} (h : HoldsV t w g vs) (j : Nat) (v : Value) (hv : vs[j]? = some v) : HoldsV t (w.setCell ⟨g, j, none⟩ v) g vs := by
  have e : vs.set j v = vs := by
    apply List.ext_getElem?
    intro i
    rw [List.getElem?_set]
    by_cases hij : j = i
    · subst hij
      have hj : j < vs.length := (List.getElem?_eq_some_iff.1 hv).1
      simp [hj]
      exact (List.getElem?_eq_some_iff.1 hv).2.symm
    · rw [if_neg hij]
  have := h.set j v
  rwa [e] at this
theorem HoldsV.other {t : TypeId} {w : World} {g : Nat} {vs : List Value} (h : HoldsV t w g vs) {p : Addr} (v : Value) (hg : g ≠ p.block) : HoldsV t (w.setCell p v) g vs := set_other v h hg
theorem HoldsV.drewN {t : TypeId} {w : World} {g : Nat} {vs : List Value} (h : HoldsV t w g vs) (n : Nat) : HoldsV t (w.drewN n) g vs := h
theorem HoldsV.same {t : TypeId} {w w' : World} {g : Nat} {vs : List Value} (h : HoldsV t w g vs) (k : SameMem w w') : HoldsV t w' g vs := k.blk h
theorem HoldsV.below {t : TypeId} {w w' : World} {g : Nat} {vs : List Value} (h : HoldsV t w g vs) {B : Nat} (hb : Below B w w') (hg : g < B) : HoldsV t w' g vs := (hb.block g hg).trans h
theorem HoldsV.lt {t : TypeId} {w : World} {g : Nat} {vs : List Value} (h : HoldsV t w g vs) : g < w.heap.size := blk_lt h
theorem HoldsV.below' {t : TypeId} {w w' : World} {g : Nat} {vs : List Value} (h : HoldsV t w g vs) (hb : Below w.heap.size w w') : HoldsV t w' g vs := h.below hb h.lt
/-- w' is w, but for the blocks S, and for blocks that are new. -/
structure OnlyIn (S : List Nat) (w w' : World) : Prop where
  os : w'.os = w.os
  tape : w'.tape = w.tape
  output : w'.output = w.output
  size : w.heap.size ≤ w'.heap.size
  block : ∀ k, k < w.heap.size → k ∉ S → w'.heap[k]? = w.heap[k]?
theorem OnlyIn.refl (S : List Nat) (w : World) : OnlyIn S w w := ⟨rfl, rfl, rfl, Nat.le_refl _, fun _ _ _ => rfl⟩
theorem OnlyIn.trans {S : List Nat} {a b c : World} (h : OnlyIn S a b) (k : OnlyIn S b c) : OnlyIn S a c :=
  ⟨k.os.trans h.os, k.tape.trans h.tape, k.output.trans h.output, Nat.le_trans h.size k.size, fun i hi hg => (k.block i (Nat.lt_of_lt_of_le hi h.size) hg).trans (h.block i hi hg)⟩
theorem OnlyIn.set {S : List Nat} {a b : World} (h : OnlyIn S a b) (p : Addr) (v : Value) (hp : p.block ∈ S) : OnlyIn S a (b.setCell p v) :=
  ⟨h.os, h.tape, h.output, by simpa [World.setCell] using h.size, fun k hk hg => (Below.heap_setCell b p v k (fun e => hg (e ▸ hp))).trans (h.block k hk hg)⟩
theorem OnlyIn.alike {S : List Nat} {a b c : World} (h : OnlyIn S a b) (k : SameMem b c) : OnlyIn S a c :=
  ⟨k.os.trans h.os, k.tape.trans h.tape, k.output.trans h.output, by rw [k.heap]; exact h.size, fun i hi hg => by rw [k.heap]; exact h.block i hi hg⟩
theorem OnlyIn.of_below {S : List Nat} {a b : World} (h : Below a.heap.size a b) : OnlyIn S a b := ⟨h.os, h.tape, h.output, h.size, fun k hk _ => h.block k hk⟩
theorem OnlyIn.next {S : List Nat} {a b c : World} (h : OnlyIn S a b) (k : Below b.heap.size b c) : OnlyIn S a c := h.trans (OnlyIn.of_below k)
theorem OnlyIn.below {S : List Nat} {B : Nat} {W a b : World} (h : OnlyIn S a b) (k : Below B W a) (hg : ∀ x ∈ S, B ≤ x) (hB : B ≤ a.heap.size) : Below B W b :=
  k.trans ⟨h.os, h.tape, h.output, h.size, fun i hi => h.block i (by omega) (fun hm => by have := hg i hm; omega)⟩
theorem OnlyIn.blk {S : List Nat} {w w' : World} {k : Nat} {o : Obj} (h : OnlyIn S w w') (hk : k ∉ S) (hb : w.heap[k]? = some o) : w'.heap[k]? = some o := (h.block k (Quiet.blk_lt hb) hk).trans hb
theorem OnlyIn.cell {S : List Nat} {w w' : World} {p : Addr} (h : OnlyIn S w w') (hp : p.block < w.heap.size) (hk : p.block ∉ S) : w'.cell? p = w.cell? p := by
  have e := h.block p.block hp hk
  simp [World.cell?, e]
theorem SameMem.refl (a : World) : SameMem a a := ⟨rfl, rfl, rfl, rfl⟩
theorem SameMem.below {a b : World} (k : SameMem a b) : Below a.heap.size a b := ⟨k.os, k.tape, k.output, by rw [k.heap]; exact Nat.le_refl _, fun i _ => by rw [k.heap]⟩
theorem SameMem.drewN {a b : World} (k : SameMem a b) (n : Nat) : SameMem a (b.drewN n) := ⟨k.heap, k.os, k.tape, k.output⟩
end Go.Proofs.Ytbhnpabanfbalaa.Vals
