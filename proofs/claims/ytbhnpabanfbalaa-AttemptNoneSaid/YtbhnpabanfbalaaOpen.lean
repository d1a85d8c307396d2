/- What a reading of an argument as data tells of its cells, for every type that is made of whole numbers, bools and strings alone, and for slices of such: each cell is of its kind. -/
import Derived.ProofKit
import Derived.OpenShut
import Derived.ShutString
import Derived.ChangeOld
import Derived.Below
import Derived.SizedLaws
import Derived.Deep.Slices
namespace Go.Proofs.Ytbhnpabanfbalaa.Open
open Go Go.ChangeShapes Go.WideShapes Go.ChangeAt Go.RowKit

inductive Leaf where
  | int (k : IntKind) | bool | string
  deriving DecidableEq

def flds (P : Program) (g : TypeId → Option (List Leaf)) : Nat → List Field → Option (List Leaf)
  | _, [] => some []
  | off, f :: fs => (g f.type).bind fun l => if f.offset = off ∧ P.cellsOf f.type = l.length then (flds P g (off + l.length) fs).map fun r => l ++ r else none

def leaves (P : Program) : Nat → TypeId → Option (List Leaf)
  | 0, _ => none
  | n + 1, t => match P.underlying t with
    | some (.int k) => some [.int k]
    | some .bool => some [.bool]
    | some .string => some [.string]
    | some (.struct fs) => (flds P (leaves P n) 0 fs.toList).bind fun l => if P.cellsOf t = l.length then some l else none
    | some (.array m e) => (leaves P n e).bind fun l => if P.cellsOf e = l.length ∧ P.cellsOf t = m * l.length then some (List.replicate m l).flatten else none
    | _ => none

def Leaf.ok : Leaf → Value → Prop
  | .int k, v => ∃ n, v = .int k n ∧ (Lit.int k n).wf = true
  | .bool, v => ∃ b, v = .bool b
  | .string, v => ∃ s, v = .string s ∧ s.size ≤ maxLen

def Oks : List Leaf → List Value → Prop
  | [], [] => True
  | k :: ks, v :: vs => k.ok v ∧ Oks ks vs
  | _, _ => False

theorem Oks.len : ∀ {ks : List Leaf} {vs : List Value}, Oks ks vs → vs.length = ks.length
  | [], [], _ => rfl
  | _ :: _, _ :: _, h => by simp [Oks.len h.2]
  | [], _ :: _, h => h.elim
  | _ :: _, [], h => h.elim

theorem Oks.append : ∀ {ks ls : List Leaf} {vs us : List Value}, Oks ks vs → Oks ls us → Oks (ks ++ ls) (vs ++ us)
  | [], _, [], _, _, h => h
  | _ :: _, _, _ :: _, _, h, h' => ⟨h.1, Oks.append h.2 h'⟩
  | [], _, _ :: _, _, h, _ => h.elim
  | _ :: _, _, [], _, h, _ => h.elim

section
variable {H : Type} {enc : TypeId × Value → H} {P : Program} {w : World} {base : Nat} {spare : Nat → Bool} {held : Bool}

theorem flds_ok {g : TypeId → Option (List Leaf)} {fuel : Nat}
    (hg : ∀ t ks, g t = some ks → ∀ cs y, DataW.trod enc P w base spare held fuel t cs = some y → Oks ks cs) (cs : List Value) :
    ∀ (fs : List Field) (off : Nat) (l : List Leaf) (xs : List (DataW H × List MemPlace)), flds P g off fs = some l →
      fs.mapM (fun f => DataW.trod enc P w base spare held fuel f.type ((cs.drop f.offset).take (P.cellsOf f.type))) = some xs → Oks l ((cs.drop off).take l.length)
  | [], off, l, xs, hl, _ => by
    simp only [flds, Option.some.injEq] at hl
    subst hl
    simp [Oks]
  | f :: fs, off, l, xs, hl, hx => by
    simp only [flds, Option.bind_eq_some_iff] at hl
    obtain ⟨l1, h1, hl⟩ := hl
    split at hl
    · rename_i hc
      obtain ⟨r, hr, rfl⟩ := Option.map_eq_some_iff.1 hl
      simp only [List.mapM_cons, Option.bind_eq_bind, Option.bind_eq_some_iff] at hx
      obtain ⟨y, hy, ys, hys, _⟩ := hx
      have o1 := hg f.type l1 h1 _ _ hy
      rw [hc.1, hc.2] at o1
      have o2 := flds_ok hg cs fs (off + l1.length) r ys hr hys
      have e : (cs.drop off).take (l1 ++ r).length = (cs.drop off).take l1.length ++ (cs.drop (off + l1.length)).take r.length := by
        rw [List.length_append, List.take_add, List.drop_drop]
      rw [e]
      exact o1.append o2
    · simp at hl

theorem leaves_ok : ∀ (n : Nat) (t : TypeId) (ks : List Leaf), leaves P n t = some ks → ∀ (fuel : Nat) (cs : List Value) (y : DataW H × List MemPlace),
    DataW.trod enc P w base spare held fuel t cs = some y → Oks ks cs
  | 0, _, _, h, _, _, _, _ => by simp [leaves] at h
  | n + 1, t, ks, h, 0, cs, y, hy => by simp [DataW.trod] at hy
  | n + 1, t, ks, h, fuel + 1, cs, y, hy => by
    unfold leaves at h
    split at h
    · rename_i k hu
      obtain rfl : [Leaf.int k] = ks := by simpa using h
      obtain ⟨a, rfl, _, hw⟩ := DataW.trod_int hu hy
      exact ⟨⟨a, rfl, hw⟩, trivial⟩
    · rename_i hu
      obtain rfl : [Leaf.bool] = ks := by simpa using h
      obtain ⟨b, rfl, _⟩ := DataW.trod_bool hu hy
      exact ⟨⟨b, rfl⟩, trivial⟩
    · rename_i hu
      obtain rfl : [Leaf.string] = ks := by simpa using h
      obtain ⟨s, rfl, _, hs⟩ := DataW.trod_string hu hy
      exact ⟨⟨s, rfl, hs⟩, trivial⟩
    · rename_i fs hu
      obtain ⟨l, hl, h⟩ := Option.bind_eq_some_iff.1 h
      split at h
      · rename_i hc
        obtain rfl : l = ks := by simpa using h
        unfold DataW.trod at hy
        rw [hu] at hy
        simp only at hy
        split at hy
        · rename_i hlen
          obtain ⟨xs, hxs, _⟩ := Option.map_eq_some_iff.1 hy
          have := flds_ok (fun t ks ht cs y hy => leaves_ok n t ks ht fuel cs y hy) cs fs.toList 0 l xs hl hxs
          rw [List.drop_zero, List.take_of_length_le (by omega)] at this
          exact this
        · simp at hy
      · simp at h
    · rename_i m e hu
      obtain ⟨l, hl, h⟩ := Option.bind_eq_some_iff.1 h
      split at h
      · rename_i hc
        obtain rfl : (List.replicate m l).flatten = ks := by simpa using h
        unfold DataW.trod at hy
        rw [hu] at hy
        simp only at hy
        split at hy
        · rename_i hlen
          obtain ⟨xs, hxs, _⟩ := Option.map_eq_some_iff.1 hy
          have each : ∀ i, i < m → Oks l ((cs.drop (i * l.length)).take l.length) := fun i hi => by
            have := mapM_some_get hxs i i (by simp [hi])
            have hx : i < xs.length := by rw [mapM_some_length hxs]; simpa using hi
            rw [List.getElem?_eq_getElem hx] at this
            have o := leaves_ok n e l hl fuel _ _ this
            rwa [hc.1] at o
          have all : ∀ j, j ≤ m → Oks (List.replicate j l).flatten (cs.take (j * l.length)) := by
            intro j
            induction j with
            | zero => intro _; simp [Oks]
            | succ j ih =>
              intro hj
              rw [List.replicate_succ', List.flatten_append, Nat.succ_mul, List.take_add]
              have := (ih (by omega)).append (each j (by omega))
              simpa using this
          have := all m (Nat.le_refl _)
          rwa [List.take_of_length_le (by omega)] at this
        · simp at hy
      · simp at h
    · simp at h

/-- What the cells of a list of kinds hold. -/
def Pts : List Leaf → Type
  | [] => Unit
  | .int _ :: ks => Int × Pts ks
  | .bool :: ks => Bool × Pts ks
  | .string :: ks => ByteArray × Pts ks
def vals : (ks : List Leaf) → Pts ks → List Value
  | [], _ => []
  | .int k :: ks, x => .int k x.1 :: vals ks x.2
  | .bool :: ks, x => .bool x.1 :: vals ks x.2
  | .string :: ks, x => .string x.1 :: vals ks x.2
def wfs : (ks : List Leaf) → Pts ks → Prop
  | [], _ => True
  | .int k :: ks, x => (Lit.int k x.1).wf = true ∧ wfs ks x.2
  | .bool :: ks, x => wfs ks x.2
  | .string :: ks, x => x.1.size ≤ maxLen ∧ wfs ks x.2

theorem Oks.pts : ∀ {ks : List Leaf} {vs : List Value}, Oks ks vs → ∃ x : Pts ks, vs = vals ks x ∧ wfs ks x
  | [], [], _ => ⟨(), rfl, trivial⟩
  | .int k :: ks, v :: vs, ⟨⟨n, e, hn⟩, h⟩ => by
    obtain ⟨x, rfl, hx⟩ := h.pts
    exact ⟨(n, x), by rw [e]; rfl, hn, hx⟩
  | .bool :: ks, v :: vs, ⟨⟨n, e⟩, h⟩ => by
    obtain ⟨x, rfl, hx⟩ := h.pts
    exact ⟨(n, x), by rw [e]; rfl, hx⟩
  | .string :: ks, v :: vs, ⟨⟨n, e, hn⟩, h⟩ => by
    obtain ⟨x, rfl, hx⟩ := h.pts
    exact ⟨(n, x), by rw [e]; rfl, hn, hx⟩
  | [], _ :: _, h => h.elim
  | _ :: _, [], h => h.elim

theorem vals_len : ∀ {ks : List Leaf} {x : Pts ks}, (vals ks x).length = ks.length
  | [], _ => rfl
  | .int _ :: _, _ => by simp [vals, vals_len]
  | .bool :: _, _ => by simp [vals, vals_len]
  | .string :: _, _ => by simp [vals, vals_len]

/-- An argument that is a struct or an array. -/
theorem open_flat {r : Reach} {b0 n : Nat} {t : TypeId} {ks : List Leaf} {v : Value} {d : DataW H} {p : List MemPlace} (hk : leaves P n t = some ks)
    (hs : (∃ fs, P.underlying t = some (.struct fs)) ∨ ∃ m e, P.underlying t = some (.array m e)) (hv : Value.okWide P w r b0 t v) (h : DataW.Trod enc P w base spare held t v d p) :
    ∃ x : Pts ks, v = .agg (vals ks x).toArray ∧ wfs ks x := by
  obtain ⟨fuel, hf⟩ := h
  obtain ⟨cs, rfl⟩ : ∃ cs, v = .agg cs := by
    rcases hs with ⟨fs, hs⟩ | ⟨m, e, hs⟩
    · obtain ⟨cs, h, _⟩ := okWide_struct hs hv
      exact ⟨cs, h⟩
    · simp only [Value.okWide, hs] at hv
      obtain ⟨cs, h, _⟩ := hv
      exact ⟨cs, h⟩
  obtain ⟨x, hx, hw⟩ := (leaves_ok n t ks hk fuel _ _ hf).pts
  refine ⟨x, ?_, hw⟩
  rw [← hx]
  simp [Value.cells]

/-- A slice of such elements, as far as its length goes. -/
def RowsOf (w : World) (ks : List Leaf) (A : Option Addr) (xs : List (Pts ks)) : Prop :=
  ∀ (i : Nat) (h : i < xs.length), ∃ a, A = some a ∧ ∀ j, j < ks.length → w.cell? (a.add (i * ks.length + j)) = (vals ks xs[i])[j]?

theorem add_add (a : Addr) (m n : Nat) : (a.add m).add n = a.add (m + n) := by
  unfold Addr.add
  by_cases hm : m = 0
  · subst hm; simp
  · by_cases hn : n = 0
    · subst hn; simp
    · simp [hm, hn, Nat.add_assoc]

theorem open_rows {n fuel : Nat} {t e : TypeId} {ks : List Leaf} {A : Option Addr} {len cap : Nat} {y : DataW H × List MemPlace} (ht : P.underlying t = some (.slice e)) (hk : leaves P n e = some ks) (hc : P.cellsOf e = ks.length)
    (h : DataW.trod enc P w base spare held fuel t [.slice A len cap] = some y) :
    ∃ xs : List (Pts ks), len = xs.length ∧ RowsOf w ks A xs ∧ (∀ x ∈ xs, wfs ks x) ∧ len ≤ cap ∧ cap ≤ maxLen ∧ (A = none → cap = 0) := by
  rcases Deep.open_slice ht h with ⟨hcs, _⟩ | ⟨a, l, c, m, n', D, Pl, hcs, _, hl, hm, hmm, _, hx⟩
  · simp only [List.cons.injEq, Value.slice.injEq, and_true] at hcs
    obtain ⟨rfl, rfl, rfl⟩ := hcs
    exact ⟨[], rfl, fun i h => absurd h (by simp), fun x hx => absurd hx (by simp), Nat.le_refl _, Nat.zero_le _, fun _ => rfl⟩
  · simp only [List.cons.injEq, Value.slice.injEq, and_true] at hcs
    obtain ⟨rfl, rfl, rfl⟩ := hcs
    have hle : len ≤ m := by rw [hmm]; split <;> omega
    have key : ∀ i, i < len → ∃ x : Pts ks, wfs ks x ∧ ∀ j, j < ks.length → w.cell? (a.add (i * ks.length + j)) = (vals ks x)[j]? := fun i hi => by
      obtain ⟨cs, h1, h2⟩ := hx i (by omega)
      obtain ⟨x, rfl, hw⟩ := (leaves_ok n e ks hk n' _ _ h2).pts
      obtain ⟨_, _, h3⟩ := World.cells?_some h1
      refine ⟨x, hw, fun j hj => ?_⟩
      rw [← h3 j (by omega), add_add, hc]
    have all : ∀ l, l ≤ len → ∃ xs : List (Pts ks), xs.length = l ∧ (∀ x ∈ xs, wfs ks x) ∧ RowsOf w ks (some a) xs := by
      intro l
      induction l with
      | zero => exact fun _ => ⟨[], rfl, fun x hx => absurd hx (by simp), fun i h => absurd h (by simp)⟩
      | succ l ih =>
        intro hl
        obtain ⟨xs, h1, h2, h3⟩ := ih (by omega)
        obtain ⟨x, hw, hx⟩ := key l (by omega)
        refine ⟨xs ++ [x], by simp [h1], fun z hz => ?_, fun i hi => ⟨a, rfl, fun j hj => ?_⟩⟩
        · rcases List.mem_append.1 hz with hz | hz
          · exact h2 z hz
          · rw [List.mem_singleton.1 hz]; exact hw
        · by_cases hil : i < xs.length
          · obtain ⟨b, hb, h⟩ := h3 i hil
            injection hb with hb
            rw [hb, h j hj, List.getElem_append_left hil]
          · have : i = l := by simp at hi; omega
            subst this
            rw [hx j hj, List.getElem_append_right (by omega)]
            simp [h1]
    obtain ⟨xs, h1, h2, h3⟩ := all len (Nat.le_refl _)
    exact ⟨xs, h1.symm, h3, h2, hl, hm, fun h => by simp at h⟩
end
end Go.Proofs.Ytbhnpabanfbalaa.Open
