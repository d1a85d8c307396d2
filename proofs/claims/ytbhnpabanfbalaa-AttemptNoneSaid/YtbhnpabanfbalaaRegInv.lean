/- A region that draws its order, by what holds of those operations that are done: each operation is walked once. -/
import Derived.Orders
import Derived.KernelRfl
import Derived.Laws.World
namespace Go.Proofs.Ytbhnpabanfbalaa.RegInv
open Go

def upd (D : Nat → Bool) (i : Nat) : Nat → Bool := fun j => j == i || D j
/-- Each operation waits for operations that stand ahead of it alone. -/
def downB (ops : Array Oper) : Bool := (List.range ops.size).all fun i => ((ops[i]?).map fun o => o.after.all fun e => !Region.binds .any e || decide (e.on < i)).getD true
section
variable {P : Program} {ops : Array Oper} {Q : Exit → Act → World → Prop}
theorem down_spec (h : downB ops = true) (i : Nat) (o : Oper) (ho : ops[i]? = some o) (e : _) (he : e ∈ o.after) (hb : Region.binds .any e = true) : e.on < i := by
  have hi : i < ops.size := (Array.getElem?_eq_some_iff.1 ho).1
  have h1 := List.all_eq_true.1 h i (List.mem_range.2 hi)
  simp only [ho, Option.map_some, Option.getD_some, Array.all_eq_true_iff_forall_mem] at h1
  have h2 := h1 e he
  rw [hb] at h2
  simpa using h2
theorem all_listed (h : downB ops = true) (L : Array Bool) (hr : Region.ready .any ops L = []) : ∀ n i, i < n → i < ops.size → L.getD i true = true := by
  intro n
  induction n with
  | zero => intro i hi; omega
  | succ n ih =>
    intro i hi hs
    by_cases hin : i < n
    · exact ih i hin hs
    · obtain rfl : i = n := by omega
      cases hc : L.getD i true with
      | true => rfl
      | false =>
        have hm : i ∈ Region.ready .any ops L := by
          rw [mem_ready]
          obtain ⟨o, ho⟩ : ∃ o, ops[i]? = some o := ⟨ops[i], Array.getElem?_eq_getElem hs⟩
          refine ⟨hc, o, ho, fun e he hb => ?_⟩
          have hlt := down_spec h i o ho e he hb
          have h2 := ih e.on hlt (by omega)
          rcases Nat.lt_or_ge e.on L.size with h' | h'
          · simp [h'] at h2 ⊢; exact h2
          · rcases Nat.lt_or_ge i L.size with h3 | h3
            · omega
            · simp [Array.getElem?_eq_none h3] at hc
        rw [hr] at hm
        cases hm
theorem upd_listed (L : Array Bool) (i : Nat) (hi : i < L.size) : (fun j => (L.setIfInBounds i true).getD j false) = upd (fun j => L.getD j false) i := by
  funext j
  unfold upd
  by_cases hj : j = i
  · subst hj; simp [hi]
  · have hb : (j == i) = false := by simpa using hj
    rw [hb, Bool.false_or]
    exact getD_set_ne false (Ne.symm hj)
theorem count_listed (L : Array Bool) (i : Nat) (hi : i < L.size) (hf : L.getD i true = false) : (L.setIfInBounds i true).toList.count false + 1 = L.toList.count false := by
  have h1 : L[i] = false := by simpa [hi] using hf
  have hm : 0 < L.toList.count false := List.count_pos_iff.2 (by rw [← h1]; exact Array.getElem_mem_toList hi)
  rw [Array.toList_setIfInBounds, List.count_set (by simpa using hi)]
  simp only [Array.getElem_toList, h1]
  have e1 : (false == false) = true := rfl
  have e2 : ¬ (true == false) = true := by decide
  rw [if_pos e1, if_neg e2]
  omega
theorem wpAny_inv (I : (Nat → Bool) → Act → World → Prop) (hd : downB ops = true)
    (hstep : ∀ i o, ops[i]? = some o → ∀ D a w, I D a w → D i = false → (∀ e ∈ o.after, Region.binds .any e = true → D e.on = true) →
      ∀ K : Act → World → Prop, (∀ a' w', I (upd D i) a' w' → K a' w') → if Region.wanted o (yielded ops a.tmps) = true then o.wp P a w K Q else K (a.put o.dst undef) w)
    (hend : ∀ D a w, I D a w → (∀ i, i < ops.size → D i = true) → Q .normal a w) :
    ∀ (fuel : Nat) (L : Array Bool) (a : Act) (w : World), L.size = ops.size → I (fun j => L.getD j false) a w → L.toList.count false ≤ fuel → wpAny P .any ops Q fuel L a w := by
  have fin : ∀ (L : Array Bool) (a : Act) (w : World), L.size = ops.size → I (fun j => L.getD j false) a w → Region.ready .any ops L = [] → Q .normal a w := by
    intro L a w hs hI hr
    refine hend _ a w hI fun i hi => ?_
    have := all_listed hd L hr (i + 1) i (by omega) hi
    simpa [hs, hi] using this
  intro fuel
  induction fuel with
  | zero =>
    intro L a w hs hI hc
    have hall : ∀ j, j < L.size → L.getD j true = true := by
      intro j hj
      have h0 : L.toList.count false = 0 := by omega
      rw [List.count_eq_zero] at h0
      have hne : L[j] ≠ false := fun e => h0 (by rw [← e]; exact Array.getElem_mem_toList hj)
      simpa [hj] using hne
    have hr : Region.ready .any ops L = [] := by
      cases hq : Region.ready .any ops L with
      | nil => rfl
      | cons i t =>
        have hm : i ∈ Region.ready .any ops L := by rw [hq]; exact List.mem_cons_self ..
        rw [mem_ready] at hm
        obtain ⟨h1, o, ho, _⟩ := hm
        have hi : i < ops.size := (Array.getElem?_eq_some_iff.1 ho).1
        rw [hall i (by omega)] at h1
        cases h1
    exact ⟨hr, fin L a w hs hI hr⟩
  | succ fuel ih =>
    intro L a w hs hI hc
    refine ⟨fin L a w hs hI, fun i hm => ?_⟩
    have hm0 := hm
    rw [mem_ready] at hm
    obtain ⟨h1, o, ho, h2⟩ := hm
    have hi : i < ops.size := (Array.getElem?_eq_some_iff.1 ho).1
    have hcn := count_listed L i (by omega) h1
    have h1' : L.getD i false = false := by
      have hiL : i < L.size := by omega
      simp [hiL] at h1 ⊢
      exact h1
    have hst := hstep i o ho (fun j => L.getD j false) a w hI h1' h2 (wpAny P .any ops Q fuel (L.setIfInBounds i true)) (fun a' w' hI' => by
      refine ih _ a' w' (by simpa using hs) ?_ (by omega)
      rw [upd_listed L i (by omega)]
      exact hI')
    unfold wpOp
    simp only [ho]
    split
    · rename_i hw
      rw [if_pos hw] at hst
      exact Or.inl hst
    · rename_i hw
      rw [if_neg hw] at hst
      exact hst
theorem wp_region_inv {id : Nat} {a : Act} {w : World} (hm : P.follows .mixedOrders = true) (hd : downB ops = true) (I : (Nat → Bool) → Act → World → Prop) (h0 : I (fun _ => false) a w.drew)
    (hstep : ∀ i o, ops[i]? = some o → ∀ D a w, I D a w → D i = false → (∀ e ∈ o.after, Region.binds .any e = true → D e.on = true) →
      ∀ K : Act → World → Prop, (∀ a' w', I (upd D i) a' w' → K a' w') → if Region.wanted o (yielded ops a.tmps) = true then o.wp P a w K Q else K (a.put o.dst undef) w)
    (hend : ∀ D a w, I D a w → (∀ i, i < ops.size → D i = true) → Q .normal a w) : (Code.region id ops true).wp P Q a w := by
  refine wp_region_any hm (wpAny_inv I hd hstep hend _ _ a _ (by simp) ?_ ?_)
  · have he : (fun j => (Array.replicate ops.size false).getD j false) = fun _ => false := by
      funext j
      rcases Nat.lt_or_ge j ops.size with h | h
      · simp [h]
      · simp [h]
    rw [he]
    exact h0
  · exact Nat.le_trans List.count_le_length (by simp)
/-- What no tactic looks into till it is opened. -/
structure Kept (p : Prop) : Prop where
  out : p
/-- Each operation of the list, from any state in which those that it waits for are done. -/
def Steps (P : Program) (ops : Array Oper) (Q : Exit → Act → World → Prop) (I : (Nat → Bool) → Act → World → Prop) : Nat → List Oper → Prop
  | _, [] => True
  | i, o :: l => (∀ D a w, I D a w → D i = false → (∀ e ∈ o.after, Region.binds .any e = true → D e.on = true) →
      ∀ K : Act → World → Prop, Kept (∀ a' w', I (upd D i) a' w' → K a' w') → if Region.wanted o (yielded ops a.tmps) = true then o.wp P a w K Q else K (a.put o.dst undef) w) ∧ Steps P ops Q I (i + 1) l
theorem Steps.nil {I : (Nat → Bool) → Act → World → Prop} {i : Nat} : Steps P ops Q I i [] := trivial
theorem Steps.cons {I : (Nat → Bool) → Act → World → Prop} {i : Nat} {o : Oper} {l : List Oper} (h : ∀ D a w, I D a w → D i = false → (∀ e ∈ o.after, Region.binds .any e = true → D e.on = true) →
      ∀ K : Act → World → Prop, Kept (∀ a' w', I (upd D i) a' w' → K a' w') → if Region.wanted o (yielded ops a.tmps) = true then o.wp P a w K Q else K (a.put o.dst undef) w) (hs : Steps P ops Q I (i + 1) l) : Steps P ops Q I i (o :: l) := ⟨h, hs⟩
theorem upd_at (D : Nat → Bool) (i : Nat) : upd D i i = true := by simp [upd]
theorem upd_ne (D : Nat → Bool) {i j : Nat} (h : j ≠ i) : upd D i j = D j := by simp [upd, h]
theorem Steps.get {I : (Nat → Bool) → Act → World → Prop} : ∀ (l : List Oper) (m i : Nat) (o : Oper), Steps P ops Q I m l → l[i]? = some o → ∀ D a w, I D a w → D (m + i) = false → (∀ e ∈ o.after, Region.binds .any e = true → D e.on = true) →
      ∀ K : Act → World → Prop, (∀ a' w', I (upd D (m + i)) a' w' → K a' w') → if Region.wanted o (yielded ops a.tmps) = true then o.wp P a w K Q else K (a.put o.dst undef) w := by
  intro l
  induction l with
  | nil => intro m i o _ h; simp at h
  | cons x l ih =>
    intro m i o hs h
    cases i with
    | zero =>
      simp at h
      subst h
      exact fun D a w hI hD hdep K hK => hs.1 D a w hI hD hdep K ⟨hK⟩
    | succ i =>
      have := ih (m + 1) i o hs.2 (by simpa using h)
      rw [show m + 1 + i = m + (i + 1) by omega] at this
      exact this
theorem wp_region_steps {id : Nat} {a : Act} {w : World} {l : List Oper} (I : (Nat → Bool) → Act → World → Prop) (hm : P.follows .mixedOrders = true) (hd : downB l.toArray = true) (h0 : I (fun _ => false) a w.drew)
    (hend : ∀ D a w, I D a w → (∀ i, i < l.length → D i = true) → Q .normal a w) (hstep : Steps P l.toArray Q I 0 l) : (Code.region id l.toArray true).wp P Q a w := by
  refine wp_region_inv hm hd I h0 (fun i o ho D a w hI hD hdep K hK => ?_) (fun D a w hI hall => hend D a w hI (by simpa using hall))
  have := hstep.get l 0 i o (by simpa using ho) D a w hI (by simpa using hD) hdep K (by simpa using hK)
  exact this
end
end Go.Proofs.Ytbhnpabanfbalaa.RegInv
