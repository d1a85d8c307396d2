/- The free numbers as a queue: what each call makes of it. -/
import Derived.Test.YthonkcldddfpnaaDoorFree2
namespace Go.Proofs.YthonkcldddfpnaaDoor.Free
open Go.RowKit Go.Proofs.YthonkcldddfpnaaDoorW.PrintWords Go.Proofs.YthonkcldddfpnaaDoorW.PrintLast Go.Proofs.YthonkcldddfpnaaDoorW.PrintMore Go.Proofs.YthonkcldddfpnaaDoor.Aid Go.Proofs.YthonkcldddfpnaaDoor.Quiet Go.Proofs.YthonkcldddfpnaaDoor.Blk Go.Proofs.YthonkcldddfpnaaDoor.State Go.Proofs.YthonkcldddfpnaaDoor.Vals
set_option linter.unusedVariables false
attribute [local go_sem] max2_int min2_int max_two min_two

/-- The state in memory holds the numbers q of 0 to k - 1, in this order. -/
structure FreeAt (w : World) (g gl gh k : Nat) (q : List Nat) : Prop where
  mem : ∃ fr : Nat, HoldsV 108 w g (boxv k gl fr q.length gh) ∧ (fr < k ∨ fr = 0) ∧ ∃ L : List Int, HoldsV 3 w gl (ints L) ∧ L.length = k ∧ ∀ i (h : i < q.length), L[(fr + i) % k]? = some (q[i] : Int)
  flags : ∃ H : List Bool, HoldsV 4 w gh (bools H) ∧ H.length = k ∧ ∀ j, j < k → H[j]? = some (decide (j ∈ q))
  ne : g ≠ gl ∧ g ≠ gh ∧ gl ≠ gh
  nodup : q.Nodup
  low : ∀ x ∈ q, x < k
  le : k ≤ 1024

theorem short : ∀ (k : Nat) (q : List Nat), q.Nodup → (∀ x ∈ q, x < k) → q.length ≤ k
  | 0, q, _, h => by
    cases q with
    | nil => simp
    | cons a t => have := h a (by simp); omega
  | k + 1, q, hd, h => by
    by_cases hm : k ∈ q
    · have h1 := short k (q.erase k) (hd.erase k) (fun x hx => by
        have h2 := (hd.mem_erase_iff).1 hx
        have := h x h2.2
        have := h2.1
        omega)
      rw [List.length_erase_of_mem hm] at h1
      omega
    · have := short k q hd (fun x hx => by
        have h1 := h x hx
        have : x ≠ k := fun e => hm (e ▸ hx)
        omega)
      omega
theorem FreeAt.short {w : World} {g gl gh k : Nat} {q : List Nat} (h : FreeAt w g gl gh k q) : q.length ≤ k := Free.short k q h.nodup h.low
theorem wrapk {a k : Nat} (h : a < 2 * k) : a % k = if a < k then a else a - k := by
  split
  · exact Nat.mod_eq_of_lt (by assumption)
  · rw [Nat.mod_eq_sub_mod (by omega), Nat.mod_eq_of_lt (by omega)]
theorem FreeAt.moved {w w' : World} {g gl gh k : Nat} {q : List Nat} (h : FreeAt w g gl gh k q) (hb : ∀ b, (b = g ∨ b = gl ∨ b = gh) → w'.heap[b]? = w.heap[b]?) : FreeAt w' g gl gh k q := by
  obtain ⟨⟨fr, h1, h2, L, h3, h4, h5⟩, ⟨H, h6, h7, h8⟩, ne, nd, lo, le⟩ := h
  exact ⟨⟨fr, (hb g (by simp)).trans h1, h2, L, (hb gl (by simp)).trans h3, h4, h5⟩, ⟨H, (hb gh (by simp)).trans h6, h7, h8⟩, ne, nd, lo, le⟩
theorem FreeAt.lt {w : World} {g gl gh k : Nat} {q : List Nat} (h : FreeAt w g gl gh k q) : ∀ b, (b = g ∨ b = gl ∨ b = gh) → b < w.heap.size := by
  obtain ⟨⟨fr, h1, h2, L, h3, h4, h5⟩, ⟨H, h6, h7, h8⟩, ne, nd, lo, le⟩ := h
  rintro b (rfl | rfl | rfl)
  · exact h1.lt
  · exact h3.lt
  · exact h6.lt
theorem FreeAt.below {w w' : World} {g gl gh k : Nat} {q : List Nat} (h : FreeAt w g gl gh k q) {B : Nat} (hb : Below B w w') (hB : g < B ∧ gl < B ∧ gh < B) : FreeAt w' g gl gh k q :=
  h.moved fun b hx => hb.block b (by rcases hx with rfl | rfl | rfl <;> omega)
theorem FreeAt.below' {w w' : World} {g gl gh k : Nat} {q : List Nat} (h : FreeAt w g gl gh k q) (hb : Below w.heap.size w w') : FreeAt w' g gl gh k q :=
  h.moved fun b hx => hb.block b (h.lt b hx)
theorem FreeAt.drewN {w : World} {g gl gh k : Nat} {q : List Nat} (h : FreeAt w g gl gh k q) (n : Nat) : FreeAt (w.drewN n) g gl gh k q := h.moved fun _ _ => rfl

theorem new_at (x : Int) (k : Nat) (w : World) (hk : mn (mx x 0) 1024 = (k : Int)) :
    Calls Tryd.prog 62 #[.int .i64 x] w fun r w' => r = .returned (.pointer (some ⟨w.heap.size + 2, 0, none⟩)) ∧ Below w.heap.size w w' ∧ ∃ gl gh, (gl = w.heap.size ∨ gl = w.heap.size + 1) ∧ (gh = w.heap.size ∨ gh = w.heap.size + 1) ∧ FreeAt w' (w.heap.size + 2) gl gh k (List.range k) := by
  have hk1 : k ≤ 1024 := by have : mn (mx x 0) 1024 ≤ 1024 := by { unfold mn; split <;> omega }
                            omega
  refine (new_calls x k w hk).mono ?_
  rintro e w' ⟨rfl, hB, gl, gh, h1, h2, h3, hF, hL, hH⟩
  refine ⟨rfl, hB, gl, gh, h1, h2, ⟨⟨0, by simpa using hF, by omega, _, hL, by simp, fun i hi => ?_⟩, ⟨_, hH, by simp, fun j hj => ?_⟩, by omega, List.nodup_range, fun x hx => by simpa using hx, hk1⟩⟩
  · simp at hi
    rw [Nat.zero_add, Nat.mod_eq_of_lt hi]
    simp [hi]
  · simp [hj]

theorem len_at (g gl gh k : Nat) (q : List Nat) (w : World) (h : FreeAt w g gl gh k q) : Calls Tryd.prog 65 #[.pointer (some ⟨g, 0, none⟩)] w fun r w' => r = .returned (.int .i64 (q.length : Int)) ∧ ∃ m, w' = w.drewN m := by
  obtain ⟨fr, h1, _⟩ := h.mem
  exact len_some g k gl fr _ gh w h1
/-- Can this number be taken? -/
def inB (k : Nat) (q : List Nat) (x : Int) : Bool := decide (0 ≤ x ∧ x < k ∧ x.toNat ∈ q)
theorem give_not (g gl gh k : Nat) (q : List Nat) (x : Int) (w : World) (h : FreeAt w g gl gh k q) (hx : x < 0 ∨ (k : Int) ≤ x ∨ x.toNat ∈ q) : Calls Tryd.prog 63 #[.pointer (some ⟨g, 0, none⟩), .int .i64 x] w fun r w' => r = .returned (.bool false) ∧ ∃ m, w' = w.drewN m := by
  obtain ⟨fr, h1, _⟩ := h.mem
  obtain ⟨H, h6, h7, h8⟩ := h.flags
  by_cases h0 : x < 0
  · exact give_low g x w h0
  · by_cases hk : (k : Int) ≤ x
    · exact give_high g k gl fr _ gh x w h1 (by omega) hk
    · obtain ⟨y, rfl⟩ := Int.eq_ofNat_of_zero_le (show 0 ≤ x by omega)
      have hy : y < k := by omega
      have hm : y ∈ q := by simpa [h0, hk] using hx
      exact give_has g k gl fr _ gh y w h1 hy ((h6.cell y).trans (by simp [bools, h8 y hy, hm]))
theorem give_at (g gl gh k : Nat) (q : List Nat) (x : Nat) (w : World) (h : FreeAt w g gl gh k q) (hx : x < k) (hq : x ∉ q) :
    Calls Tryd.prog 63 #[.pointer (some ⟨g, 0, none⟩), .int .i64 (x : Int)] w fun r w' => r = .returned (.bool true) ∧ FreeAt w' g gl gh k (q ++ [x]) ∧ OnlyIn [g, gl, gh] w w' := by
  have hs := h.short
  have hnd : (q ++ [x]).Nodup := by
    rw [List.nodup_append]
    exact ⟨h.nodup, by simp, fun a ha b hb => by simp at hb; subst hb; exact fun e => hq (e ▸ ha)⟩
  have hlo : ∀ y ∈ q ++ [x], y < k := fun y hy => by
    rcases List.mem_append.1 hy with hy | hy
    · exact h.low y hy
    · simp at hy; omega
  have hs1 := Free.short k _ hnd hlo
  simp at hs1
  obtain ⟨⟨fr, h1, h2, L, h3, h4, h5⟩, ⟨H, h6, h7, h8⟩, ne, nd, lo, le⟩ := h
  have hp : (fr + q.length) % k < k := Nat.mod_lt _ (by omega)
  refine (give_yes g k gl fr q.length gh ((fr + q.length) % k) x w h1 hx ((h6.cell x).trans (by simp [bools, h8 x hx, hq])) (h3.free _) ⟨_, (h3.cell _).trans (List.getElem?_eq_getElem (by simp [ints]; omega))⟩ (h6.free _) ne (by rw [← Int.natCast_add]; rfl) hp (by omega)).mono ?_
  rintro e w' ⟨rfl, hm⟩
  have ne1 := ne.1.symm
  have ne2 := ne.2.1.symm
  have ne3 := ne.2.2.symm
  refine ⟨rfl, ⟨⟨fr, ?_, h2, L.set ((fr + q.length) % k) (x : Int), ?_, by simpa using h4, fun i hi => ?_⟩, ⟨H.set x true, ?_, by simpa using h7, fun j hj => ?_⟩, ne, hnd, hlo, le⟩, ?_⟩
  · have := (((h1.other (p := ⟨gl, (fr + q.length) % k, none⟩) (.int .i64 (x : Int)) ne.1).set 3 (.int .i64 ((q.length : Int) + 1))).other (p := ⟨gh, x, none⟩) (.bool true) ne.2.1).same hm
    simpa [boxv] using this
  · have := (((h3.set ((fr + q.length) % k) (.int .i64 (x : Int))).other (p := ⟨g, 3, none⟩) (.int .i64 ((q.length : Int) + 1)) ne1).other (p := ⟨gh, x, none⟩) (.bool true) ne.2.2).same hm
    simpa [ints, List.map_set] using this
  · simp at hi
    rw [List.getElem?_set]
    by_cases hq1 : i = q.length
    · subst hq1; simp [h4, hp]
    · have hi' : i < q.length := by omega
      have hne : (fr + q.length) % k ≠ (fr + i) % k := by
        rw [wrapk (show fr + q.length < 2 * k by omega), wrapk (show fr + i < 2 * k by omega)]
        split <;> split <;> omega
      rw [if_neg hne, h5 i hi', List.getElem_append_left hi']
  · have := (((h6.other (p := ⟨gl, (fr + q.length) % k, none⟩) (.int .i64 (x : Int)) ne3).other (p := ⟨g, 3, none⟩) (.int .i64 ((q.length : Int) + 1)) ne2).set x (.bool true)).same hm
    simpa [bools, List.map_set] using this
  · rw [List.getElem?_set]
    by_cases hxj : x = j
    · subst hxj; simp [h7, hj]
    · rw [if_neg hxj, h8 j hj]
      simp [Ne.symm hxj]
  · exact ((((OnlyIn.refl _ _).set _ _ (by simp)).set _ _ (by simp)).set _ _ (by simp)).alike hm
theorem take_not (g gl gh k : Nat) (w : World) (h : FreeAt w g gl gh k []) : Calls Tryd.prog 64 #[.pointer (some ⟨g, 0, none⟩)] w fun r w' => r = .returned (.tuple #[.int .i64 0, .bool false]) ∧ ∃ m, w' = w.drewN m := by
  obtain ⟨fr, h1, _⟩ := h.mem
  exact take_none g k gl fr gh w h1
theorem take_at (g gl gh k : Nat) (x : Nat) (q : List Nat) (w : World) (h : FreeAt w g gl gh k (x :: q)) :
    Calls Tryd.prog 64 #[.pointer (some ⟨g, 0, none⟩)] w fun r w' => r = .returned (.tuple #[.int .i64 (x : Int), .bool true]) ∧ FreeAt w' g gl gh k q ∧ OnlyIn [g, gl, gh] w w' := by
  have hs := h.short
  simp at hs
  obtain ⟨⟨fr, h1, h2, L, h3, h4, h5⟩, ⟨H, h6, h7, h8⟩, ne, nd, lo, le⟩ := h
  have hx : x < k := lo x (by simp)
  have hfr : fr < k := by omega
  have hL : L[fr]? = some (x : Int) := by
    have := h5 0 (by simp)
    rwa [Nat.add_zero, Nat.mod_eq_of_lt hfr] at this
  have hp : (fr + 1) % k < k := Nat.mod_lt _ (by omega)
  have hnd := List.nodup_cons.1 nd
  refine (take_some g k gl fr (q.length + 1) gh ((fr + 1) % k) x w h1 (by omega) hx ((h3.cell fr).trans (by simp [ints, hL])) hfr true ((h6.cell x).trans (by simp [bools, h8 x hx])) (h6.free _) ne (by rw [show ((fr : Int) + 1) = ((fr + 1 : Nat) : Int) by omega]; rfl) (by omega)).mono ?_
  rintro e w' ⟨rfl, hm⟩
  have ne1 := ne.1.symm
  have ne2 := ne.2.1.symm
  have ne3 := ne.2.2.symm
  refine ⟨rfl, ⟨⟨(fr + 1) % k, ?_, Or.inl hp, L, ?_, h4, fun i hi => ?_⟩, ⟨H.set x false, ?_, by simpa using h7, fun j hj => ?_⟩, ne, hnd.2, fun y hy => lo y (by simp [hy]), le⟩, ?_⟩
  · have := (((h1.set 2 (.int .i64 (((fr + 1) % k : Nat) : Int))).set 3 (.int .i64 (((q.length + 1 : Nat) : Int) - 1))).other (p := ⟨gh, x, none⟩) (.bool false) ne.2.1).same hm
    rw [show (((q.length + 1 : Nat) : Int) - 1) = (q.length : Int) by omega] at this
    simpa [boxv] using this
  · exact (((h3.other (p := ⟨g, 2, none⟩) _ ne1).other (p := ⟨g, 3, none⟩) _ ne1).other (p := ⟨gh, x, none⟩) _ ne.2.2).same hm
  · have h9 := h5 (i + 1) (by simp; omega)
    have e : ((fr + 1) % k + i) % k = (fr + (i + 1)) % k := by
      rw [Nat.mod_add_mod, Nat.add_right_comm, Nat.add_assoc]
    rw [e, h9]
    simp
  · have := (((h6.other (p := ⟨g, 2, none⟩) (.int .i64 (((fr + 1) % k : Nat) : Int)) ne2).other (p := ⟨g, 3, none⟩) (.int .i64 (((q.length + 1 : Nat) : Int) - 1)) ne2).set x (.bool false)).same hm
    simpa [bools, List.map_set] using this
  · rw [List.getElem?_set]
    by_cases hxj : x = j
    · subst hxj; simp [h7, hj, hnd.1]
    · rw [if_neg hxj, h8 j hj]
      simp [Ne.symm hxj]
  · exact ((((OnlyIn.refl _ _).set _ _ (by simp)).set _ _ (by simp)).set _ _ (by simp)).alike hm
end Go.Proofs.YthonkcldddfpnaaDoor.Free
