/- A block of whole numbers in memory as a list: read, written, made. -/
import Derived.Below
import Derived.Laws.Rows
import Derived.Laws.MakeOwn
import Derived.Test.YtbhnpabanfbalaaQuiet
import Derived.Test.YtbhnpabanfbalaaWWords
namespace Go.Proofs.Ytbhnpabanfbalaa.Blk
open Go Go.RowKit Go.Proofs.Ytbhnpabanfbalaa.Quiet Go.Proofs.YtbhnpabanfbalaaW.PrintWords

def arr (k : IntKind) (L : List Int) : Array Value := (L.map (Value.int k)).toArray
theorem arr_get (k : IntKind) (L : List Int) (i : Nat) : (arr k L)[i]? = (L[i]?).map (Value.int k) := by simp [arr]
theorem arr_set (k : IntKind) (L : List Int) (j : Nat) (v : Int) : (arr k L).setIfInBounds j (.int k v) = arr k (L.set j v) := by
  simp [arr, List.map_set]
theorem arr_size (k : IntKind) (L : List Int) : (arr k L).size = L.length := by simp [arr]
theorem arr_made (k : IntKind) (m : Nat) : madeCells #[.int k 0] m = arr k (List.replicate m 0) := by
  apply Array.ext
  · simp [size_madeCells, arr_size]
  · intro i h1 h2
    simp [madeCells, arr, Nat.mod_one]
/-- The block g holds the list L. -/
def Holds (k : IntKind) (t : TypeId) (w : World) (g : Nat) (L : List Int) : Prop := w.heap[g]? = some (.cells (arr k L) t (0, 0))
theorem Holds.cell {k : IntKind} {t : TypeId} {w : World} {g : Nat} {L : List Int} (h : Holds k t w g L) {i : Nat} (hi : i < L.length) : w.cell? ⟨g, i, none⟩ = some (.int k (L[i]?.getD 0)) := by
  rw [cell_blk h, arr_get, List.getElem?_eq_getElem hi]; rfl
theorem Holds.free {k : IntKind} {t : TypeId} {w : World} {g : Nat} {L : List Int} (h : Holds k t w g L) (i : Nat) : w.frozen? ⟨g, i, none⟩ = false := by
  have h' : w.heap[g]? = some (.cells (arr k L) t (0, 0)) := h
  simp [World.frozen?, h']
theorem Holds.set {k : IntKind} {t : TypeId} {w : World} {g : Nat} {L : List Int} (h : Holds k t w g L) (j : Nat) (v : Int) : Holds k t (w.setCell ⟨g, j, none⟩ (.int k v)) g (L.set j v) := by
  unfold Holds
  rw [heap_setCell_same w g j (arr k L) t (.int k v) h, arr_set]
theorem Holds.drewN {k : IntKind} {t : TypeId} {w : World} {g : Nat} {L : List Int} (h : Holds k t w g L) (n : Nat) : Holds k t (w.drewN n) g L := h
theorem Holds.below {k : IntKind} {t : TypeId} {w w' : World} {g : Nat} {L : List Int} (h : Holds k t w g L) {B : Nat} (hb : Below B w w') (hg : g < B) : Holds k t w' g L := (hb.block g hg).trans h
theorem Holds.lt {k : IntKind} {t : TypeId} {w : World} {g : Nat} {L : List Int} (h : Holds k t w g L) : g < w.heap.size := Quiet.blk_lt h
theorem Holds.C {t : TypeId} {w : World} {g : Nat} {L : List Int} (h : Holds .i64 t w g L) (hl : L.length ≤ 9223372036854775807) : Kd.C (Kd.int .i64) w (some ⟨g, 0, none⟩) L.length L := by
  refine ⟨rfl, hl, fun _ => ⟨⟨g, 0, none⟩, rfl, fun j p hj => ⟨[.int .i64 p], rfl, rfl, fun i u hu => ?_⟩⟩⟩
  obtain ⟨hj', hp⟩ := List.getElem?_eq_some_iff.1 hj
  have hi : i = 0 := by have := (List.getElem?_eq_some_iff.1 hu).1; simpa using this
  subst hi
  have e : u = .int .i64 p := by simpa using hu.symm
  subst e
  have := h.cell hj'
  rw [hj] at this
  rw [show (⟨g, 0, none⟩ : Addr).add (j * (Kd.int .i64).sz + 0) = ⟨g, j, none⟩ by show Addr.add _ (j * 1 + 0) = _; unfold Addr.add; split <;> simp_all]
  exact this
end Go.Proofs.Ytbhnpabanfbalaa.Blk
