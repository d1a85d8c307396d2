/- The ending of a slot's turn: contracts of its steps over an arena. -/
import Derived.Test.YthonkcldddfpnaaDoorArena
import Derived.Test.YthonkcldddfpnaaDoorSlot3
import Derived.Deep.WholeRow
namespace Go.Proofs.YthonkcldddfpnaaDoor.Settle
open Go.RowKit Go.Proofs.YthonkcldddfpnaaDoorW.PrintWords Go.Proofs.YthonkcldddfpnaaDoorW.PrintLast Go.Proofs.YthonkcldddfpnaaDoorW.PrintMore Go.Proofs.YthonkcldddfpnaaDoor.Aid Go.Proofs.YthonkcldddfpnaaDoor.Quiet Go.Proofs.YthonkcldddfpnaaDoor.Blk Go.Proofs.YthonkcldddfpnaaDoor.State Go.Proofs.YthonkcldddfpnaaDoor.Vals Go.Proofs.YthonkcldddfpnaaDoor.Arena Go.Proofs.YthonkcldddfpnaaDoor.SlotF Go.Proofs.YthonkcldddfpnaaDoor.Slot
set_option linter.unusedVariables false
set_option linter.unusedSimpArgs false

theorem addT_len (T : List Int) (j : Int) : (addT T j).length ≤ T.length + 1 := by
  unfold addT
  split
  · omega
  · simp
/-- A task's own five cells. -/
def tkv (c g m a : Int) (x : Int) : List Value := [.int .i64 c, .int .i64 g, .int .i64 m, .int .i64 a, .int .u64 x]
/-- An arena, and blocks of tasks. -/
structure AS (W : World) (B2 g gc n : Nat) (w : World) (vals : List Int) (k : Nat) (ks : List (Nat × List Value)) : Prop where
  st : ∃ TV T, St B2 g gc n w TV vals T 0 ∧ T.length ≤ k
  below : Below W.heap.size W w
  ge : W.heap.size ≤ g ∧ W.heap.size ≤ gc ∧ W.heap.size ≤ B2
  keep : ∀ p ∈ ks, HoldsV 60 w p.1 p.2 ∧ W.heap.size ≤ p.1
theorem other_block {w : World} {a b : Nat} {x y : Array Value} {s t : TypeId} {u v : Nat × Nat} (h1 : w.heap[a]? = some (.cells x s u)) (h2 : w.heap[b]? = some (.cells y t v)) (h : s ≠ t) : a ≠ b := by
  rintro rfl
  rw [h1] at h2
  injection h2 with h2
  injection h2 with _ h3 _
  exact h h3
section
variable {W : World} {B2 g gc n k : Nat} {w w' : World} {vals : List Int} {ks : List (Nat × List Value)} {p : Nat × List Value} {bx : Nat} {vs vs' : List Value}
theorem AS.next (h : AS W B2 g gc n w vals k ks) (hb : Below w.heap.size w w') : AS W B2 g gc n w' vals k ks := by
  obtain ⟨TV, T, h1, h2⟩ := h.st
  exact ⟨⟨TV, T, h1.next hb, h2⟩, h.below.trans (hb.mono h.below.size), h.ge, fun p hp => ⟨(h.keep p hp).1.below' hb, (h.keep p hp).2⟩⟩
theorem AS.add (h : AS W B2 g gc n w vals k ks) (hv : HoldsV 60 w bx vs) (hb : W.heap.size ≤ bx) : AS W B2 g gc n w vals k ((bx, vs) :: ks) :=
  ⟨h.st, h.below, h.ge, fun p hp => by
    rcases List.mem_cons.1 hp with rfl | hp
    · exact ⟨hv, hb⟩
    · exact h.keep p hp⟩
theorem AS.drop (h : AS W B2 g gc n w vals k (p :: ks)) : AS W B2 g gc n w vals k ks := ⟨h.st, h.below, h.ge, fun q hq => h.keep q (List.mem_cons_of_mem _ hq)⟩
theorem AS.more {k' : Nat} (h : AS W B2 g gc n w vals k ks) (hk : k ≤ k') : AS W B2 g gc n w vals k' ks := by
  obtain ⟨TV, T, h1, h2⟩ := h.st
  exact ⟨⟨TV, T, h1, Nat.le_trans h2 hk⟩, h.below, h.ge, h.keep⟩
theorem AS.head (h : AS W B2 g gc n w vals k ((bx, vs) :: ks)) : HoldsV 60 w bx vs := (h.keep (bx, vs) (by simp)).1
/-- A task's block alone was written. -/
theorem AS.only (h : AS W B2 g gc n w vals k ((bx, vs) :: ks)) (ho : OnlyIn [bx] w w') (hv : HoldsV 60 w' bx vs') (hne : ∀ q ∈ ks, q.1 ≠ bx) : AS W B2 g gc n w' vals k ((bx, vs') :: ks) := by
  obtain ⟨TV, T, h1, h2⟩ := h.st
  have hx := h.head
  have n1 : g ≠ bx := other_block h1.box hx (by decide)
  have n2 : gc ≠ bx := other_block h1.cells hx (by decide)
  have hown : w'.ownsRow B2 3 1 TV T.length (nums .i64 T) := by
    refine ⟨h1.own.1, ?_⟩
    rcases h1.own.2 with e | ⟨g', cap, cur, e, hb, hg, rest⟩
    · exact Or.inl e
    · have n3 : g' ≠ bx := other_block hg hx (by decide)
      exact Or.inr ⟨g', cap, cur, e, hb, ho.blk (by simp; exact n3) hg, rest⟩
  exact ⟨⟨TV, T, ⟨ho.blk (by simp; exact n1) h1.box, hown, ho.blk (by simp; exact n2) h1.cells, h1.len, h1.ne, h1.lt, h1.pos, h1.few, Nat.le_trans h1.size ho.size⟩, h2⟩,
    ho.below h.below (fun x hx => by simp at hx; subst hx; exact (h.keep (x, vs) (by simp)).2) h.below.size, h.ge, fun q hq => by
      rcases List.mem_cons.1 hq with rfl | hq
      · exact ⟨hv, (h.keep (bx, vs) (by simp)).2⟩
      · have := h.keep q (List.mem_cons_of_mem _ hq)
        exact ⟨ho.blk (by simp; exact hne q hq) this.1, this.2⟩⟩
theorem AS.put (h : AS W B2 g gc n w vals k ((bx, vs) :: ks)) (j : Nat) (v : Value) (hne : ∀ q ∈ ks, q.1 ≠ bx) : AS W B2 g gc n (w.setCell ⟨bx, j, none⟩ v) vals k ((bx, vs.set j v) :: ks) :=
  h.only ((OnlyIn.refl _ _).set _ _ (by simp)) (h.head.set j v) hne
theorem AS.row (h : AS W B2 g gc n w vals k ((bx, vs) :: ks)) (hne : ∀ q ∈ ks, q.1 ≠ bx) : AS W B2 g gc n (w.setRow bx vs'.toArray) vals k ((bx, vs') :: ks) :=
  h.only ⟨rfl, rfl, rfl, by simp [World.setRow], fun i hi hn => setRow_other w bx i _ (by simp at hn; exact hn)⟩ (setRow_heap w bx _ _ 60 (0, 0) h.head) hne
theorem AS.swap2 {p q : Nat × List Value} (h : AS W B2 g gc n w vals k (p :: q :: ks)) : AS W B2 g gc n w vals k (q :: p :: ks) :=
  ⟨h.st, h.below, h.ge, fun r hr => h.keep r (by
    rcases List.mem_cons.1 hr with rfl | hr
    · simp
    · rcases List.mem_cons.1 hr with rfl | hr
      · simp
      · simp [hr])⟩
theorem AS.fr {v : Value} {f : Nat} {args : Array Value} {vals' : List Int} (j : Int) (h : AS W B2 g gc n w vals k ks)
    (hc : ∀ TV T, St B2 g gc n w TV vals T 0 → T.length ≤ k → Calls Tryd.prog f args w fun r w' => r = .returned v ∧ ∃ TV', St B2 g gc n w' TV' vals' (addT T j) 0 ∧ Fr g gc TV TV' w w') :
    Calls Tryd.prog f args w fun r w' => r = .returned v ∧ AS W B2 g gc n w' vals' (k + 1) ks := by
  obtain ⟨TV, T, h1, h2⟩ := h.st
  refine (hc TV T h1 h2).mono ?_
  rintro r w' ⟨h3, TV', h4, h5⟩
  refine ⟨h3, ⟨TV', _, h4, Nat.le_trans (addT_len T j) (by omega)⟩, h5.below h.below h.ge.1 h.ge.2.1 (fun b hb => Nat.le_trans h.ge.2.2 (own_base h1.own b hb)) h.below.size, h.ge, fun p hp => ?_⟩
  have h6 := h.keep p hp
  refine ⟨(h5.block p.1 h6.1.lt (other_block h1.box h6.1 (by decide)).symm (other_block h1.cells h6.1 (by decide)).symm (fun e => ?_)).trans h6.1, h6.2⟩
  rcases h1.own.2 with ⟨e2, _⟩ | ⟨g', cap, cur, e2, hb, hg, rest⟩
  · rw [e2] at e; simp [Value.ownBlock] at e
  · rw [e2] at e
    have : p.1 = g' := by simpa [Value.ownBlock] using e
    exact other_block hg h6.1 (by decide) this.symm
theorem read_as (j : Nat) (hj : j < n) (hk : k ≤ 98) (h : AS W B2 g gc n w vals k ks) :
    Calls Tryd.prog 58 #[.pointer (some ⟨g, 0, none⟩), .int .i64 (j : Int)] w fun r w' => r = .returned (.int .u64 (vals[j]?.getD 0)) ∧ AS W B2 g gc n w' vals (k + 1) ks :=
  h.fr j fun TV T h1 h2 => read_in j hj h1 (by omega)
theorem write_as (j : Nat) (y : Int) (hj : j < n) (hk : k ≤ 98) (h : AS W B2 g gc n w vals k ks) :
    Calls Tryd.prog 31 #[.pointer (some ⟨g, 0, none⟩), .int .i64 (j : Int), .int .u64 y] w fun r w' => r = .returned (.tuple #[]) ∧ AS W B2 g gc n w' (vals.set j y) (k + 1) ks :=
  h.fr j fun TV T h1 h2 => write_in j y hj h1 (by omega)
theorem swap_as (j : Nat) (x y : Int) (hx : vals[j]?.getD 0 = x) (hj : j < n) (hk : k ≤ 98) (h : AS W B2 g gc n w vals k ks) :
    Calls Tryd.prog 59 #[.pointer (some ⟨g, 0, none⟩), .int .i64 (j : Int), .int .u64 x, .int .u64 y] w fun r w' => r = .returned (.bool true) ∧ AS W B2 g gc n w' (vals.set j y) (k + 1) ks :=
  hx ▸ h.fr j fun TV T h1 h2 => swap_in j y hj h1 (by omega)
theorem swapn_as (j : Nat) (z y : Int) (hz : vals[j]?.getD 0 ≠ z) (hj : j < n) (hk : k ≤ 98) (h : AS W B2 g gc n w vals k ks) :
    Calls Tryd.prog 59 #[.pointer (some ⟨g, 0, none⟩), .int .i64 (j : Int), .int .u64 z, .int .u64 y] w fun r w' => r = .returned (.bool false) ∧ AS W B2 g gc n w' vals (k + 1) ks :=
  h.fr j fun TV T h1 h2 => swap_not j z y hj h1 (by omega) hz
theorem look_as (j : Nat) (hj : j < n) (h : AS W B2 g gc n w vals k ks) :
    Calls Tryd.prog 36 #[.pointer (some ⟨g, 0, none⟩), .int .i64 (j : Int)] w fun r w' => r = .returned (.int .u64 (vals[j]?.getD 0)) ∧ AS W B2 g gc n w' vals k ks := by
  obtain ⟨TV, T, h1, h2⟩ := h.st
  refine (look_in j hj h1).mono ?_
  rintro r w' ⟨h3, m, rfl⟩
  exact ⟨h3, h.next (below_drewN (Below.refl _ _) m)⟩
end
theorem task_new (c g m : Int) (w : World) : Calls Tryd.prog 32 #[.int .i64 c, .int .i64 g, .int .i64 m] w fun r w' => r = .returned (.agg #[.int .i64 c, .int .i64 g, .int .i64 m, .int .i64 0, .int .u64 0]) ∧ Below w.heap.size w w' := by
  have hu60 := Tryd.underlying60
  go_enter Tryd.func32, Tryd.ntmps32
  go_wp2_with fail
  refine bodyPost_ret (results_cell_row rfl _ _ w.heap.size 60 (tkv c g m 0 0).toArray (0, 0) _ rfl (heap_new _ _) Tryd.underlying60 rfl (by kernel_rfl)) rfl ?_
  exact ⟨rfl, (Below.refl _ _).alloc (Nat.le_refl _) _⟩
theorem done_at (c g m a x e : Int) (d : Bool) (w : World) (h : (a = 2 ∧ e = 0 ∧ d = true) ∨ (a = 3 ∧ e = 5 ∧ d = true) ∨ (a = 0 ∧ e = 0 ∧ d = false) ∨ (a = 1 ∧ e = 0 ∧ d = false)) :
    Calls Tryd.prog 34 #[.agg #[.int .i64 c, .int .i64 g, .int .i64 m, .int .i64 a, .int .u64 x]] w fun r w' => r = .returned (.tuple #[.int .i64 e, .bool d]) ∧ Below w.heap.size w w' := by
  have hu60 := Tryd.underlying60
  rcases h with ⟨rfl, rfl, rfl⟩ | ⟨rfl, rfl, rfl⟩ | ⟨rfl, rfl, rfl⟩ | ⟨rfl, rfl, rfl⟩
  all_goals go_enter Tryd.func34, Tryd.ntmps34
  all_goals go_wp2_with fail
  all_goals go_ret2
  all_goals exact ⟨rfl, (Below.refl _ _).alloc (Nat.le_refl _) _⟩
theorem word_at (c g m x : Int) (w : World) : Calls Tryd.prog 60 #[.agg #[.int .i64 c, .int .i64 g, .int .i64 m, .int .i64 2, .int .u64 x]] w fun r w' => r = .returned (.int .u64 x) ∧ Below w.heap.size w w' := by
  have hu60 := Tryd.underlying60
  go_enter Tryd.func60, Tryd.ntmps60
  go_wp2_with fail
  go_ret
  exact ⟨rfl, (Below.refl _ _).alloc (Nat.le_refl _) _⟩
set_option maxHeartbeats 2000000 in
set_option maxRecDepth 100000 in
/-- It looks. -/
theorem step_look {W : World} {B2 ga gc n k : Nat} {w : World} {vals : List Int} {ks : List (Nat × List Value)} (j : Nat) (g m : Int) (x : Nat) (x0 : Nat) (gl : LaidSlot.Cells W) (hj : j < n) (hk : k ≤ 98) (hv : vals[j]?.getD 0 = (x0 : Int)) (hx : x0 < 2 ^ 64) (a2 : Int) (ha : a2 = if liveB x0 g then 1 else 3) (h : AS W B2 ga gc n w vals k ks) :
    Calls Tryd.prog 33 #[.agg #[.int .i64 (j : Int), .int .i64 g, .int .i64 m, .int .i64 0, .int .u64 (x : Int)], .pointer (some ⟨ga, 0, none⟩)] w fun r w' => r = .returned (.agg #[.int .i64 (j : Int), .int .i64 g, .int .i64 m, .int .i64 a2, .int .u64 (x0 : Int)]) ∧ AS W B2 ga gc n w' vals (k + 1) ks := by
  have hu60 := Tryd.underlying60
  have H := Aside0.mk h
  have GL := Aside0.mk gl
  have hz := Cells.size gl
  clear h gl
  go_enter Tryd.func33, Tryd.ntmps33
  go_upto_region 1 with fail
  obtain ⟨bx, hbx⟩ : ∃ x, w.heap.size = x := ⟨_, rfl⟩
  have NK := Aside0.mk (show ∀ q ∈ ks, q.1 < bx from fun q hq => hbx ▸ (H.out.keep q hq).1.lt)
  have WB := Aside0.mk (show W.heap.size ≤ bx from hbx ▸ H.out.below.size)
  have A1 := Aside0.mk (show AS W B2 ga gc n ((w.alloc (.cells #[.int .i64 (j : Int), .int .i64 g, .int .i64 m, .int .i64 0, .int .u64 (x : Int)] 60)).alloc (.cells #[.int .i64 0, .int .i64 0, .int .i64 0, .int .i64 0, .int .u64 0] 60)) vals k ((bx, tkv j g m 0 x) :: (bx + 1, tkv 0 0 0 0 0) :: ks) from by
    subst hbx
    have h1 := H.out.next ((Below.refl w.heap.size w).alloc (Nat.le_refl _) (.cells #[.int .i64 (j : Int), .int .i64 g, .int .i64 m, .int .i64 0, .int .u64 (x : Int)] 60))
    have h2 := h1.next ((Below.refl _ _).alloc (Nat.le_refl _) (.cells #[.int .i64 0, .int .i64 0, .int .i64 0, .int .i64 0, .int .u64 0] 60))
    have h3 := h2.add (bx := w.heap.size + 1) (vs := tkv 0 0 0 0 0) (heap_new' _ (by simp)) (by have := WB.out; omega)
    exact h3.add (bx := w.heap.size) (vs := tkv j g m 0 x) (heap_old (heap_new _ _)) WB.out)
  obtain ⟨w1, hw1⟩ : ∃ ww, (w.alloc (.cells #[.int .i64 (j : Int), .int .i64 g, .int .i64 m, .int .i64 0, .int .u64 (x : Int)] 60)).alloc (.cells #[.int .i64 0, .int .i64 0, .int .i64 0, .int .i64 0, .int .u64 0] 60) = ww := ⟨_, rfl⟩
  rw [hw1] at A1 ⊢
  try simp only [hbx, World.alloc, Array.size_push]
  have NE := Aside0.mk (show ∀ q ∈ (bx + 1, tkv 0 0 0 0 0) :: ks, q.1 ≠ bx from fun q hq => by
    rcases List.mem_cons.1 hq with rfl | hq
    · simp
    · have := NK.out q hq; omega)
  have NE2 := Aside0.mk (show ∀ vs, ∀ q ∈ (bx, vs) :: ks, q.1 ≠ bx + 1 from fun vs q hq => by
    rcases List.mem_cons.1 hq with rfl | hq
    · simp
    · have := NK.out q hq; omega)
  clear hw1 hbx H
  have c0 := A1.out.head.cell 0
  have c3 := A1.out.head.cell 3
  simp only [tkv, List.getElem?_cons_zero, List.getElem?_cons_succ, List.set_cons_zero, List.set_cons_succ] at c0 c3
  go_wp2_with fail
  have RD := Aside0.mk (read_as j hj hk A1.out)
  rw [hv] at RD
  refine RD.out.mono ?_
  rintro e w2 ⟨rfl, h2⟩
  have A2 := Aside0.mk h2
  have f4 := h2.head.free 4
  have f3 := h2.head.free 3
  clear h2 RD c0 c3
  have c1 := A2.out.head.cell 1
  have c3 := A2.out.head.cell 3
  have c4 := A2.out.head.cell 4
  simp only [tkv, List.getElem?_cons_zero, List.getElem?_cons_succ, List.set_cons_zero, List.set_cons_succ] at c1 c3 c4
  have A3 := Aside0.mk ((A2.out.put 4 (.int .u64 (x0 : Int)) NE.out).put 3 (.int .i64 3) NE.out)
  go_wp2_with fail
  refine (live_calls x0 hx g _ (Cells.below GL.out A3.out.below hz)).mono ?_
  rintro e w3 ⟨rfl, hb⟩
  have A4 := Aside0.mk (A3.out.next hb)
  have f3 := A4.out.head.free 3
  clear hb f4 A3 A2 A1
  have d3 := A4.out.head.cell 3
  simp only [tkv, List.getElem?_cons_zero, List.getElem?_cons_succ, List.set_cons_zero, List.set_cons_succ] at d3
  cases hl : liveB x0 g
  · obtain rfl : a2 = 3 := by rw [ha, hl]; rfl
    clear hl ha hv
    go_upto_region 12 with fail
    have c0 := A4.out.head.cell 0
    have c1 := A4.out.head.cell 1
    have c2 := A4.out.head.cell 2
    have c3 := A4.out.head.cell 3
    have c4 := A4.out.head.cell 4
    simp only [tkv, List.getElem?_cons_zero, List.getElem?_cons_succ, List.set_cons_zero, List.set_cons_succ] at c0 c1 c2 c3 c4
    go_wp2_with (first | ((with_reducible refine gate_store (t := 60) (p := 4) (v := .tmp 40) rfl ?_); refine wpList_store_row rfl 60 (.tmp 4) (.tmp 40) rfl (bx + 1) ([.int .i64 (j : Int), .int .i64 g, .int .i64 m, .int .i64 3, .int .u64 (x0 : Int)] : List Value).toArray rfl rfl 60 _ A4.out.swap2.head (by kernel_rfl) rfl (by kernel_rfl) ?_))
    have AF := Aside0.mk (A4.out.swap2.row (vs' := tkv (j : Int) g m 3 (x0 : Int)) (NE2.out _))
    refine bodyPost_ret (results_cell_row rfl _ _ (bx + 1) 60 (tkv (j : Int) g m 3 (x0 : Int)).toArray (0, 0) _ rfl AF.out.head Tryd.underlying60 rfl (by kernel_rfl)) rfl ?_
    exact ⟨rfl, AF.out.drop.drop⟩
  · obtain rfl : a2 = 1 := by rw [ha, hl]; rfl
    clear hl ha hv
    have A5 := Aside0.mk (A4.out.put 3 (.int .i64 1) NE.out)
    go_upto_region 12 with fail
    have c0 := A5.out.head.cell 0
    have c1 := A5.out.head.cell 1
    have c2 := A5.out.head.cell 2
    have c3 := A5.out.head.cell 3
    have c4 := A5.out.head.cell 4
    simp only [tkv, List.getElem?_cons_zero, List.getElem?_cons_succ, List.set_cons_zero, List.set_cons_succ] at c0 c1 c2 c3 c4
    go_wp2_with (first | ((with_reducible refine gate_store (t := 60) (p := 4) (v := .tmp 40) rfl ?_); refine wpList_store_row rfl 60 (.tmp 4) (.tmp 40) rfl (bx + 1) ([.int .i64 (j : Int), .int .i64 g, .int .i64 m, .int .i64 1, .int .u64 (x0 : Int)] : List Value).toArray rfl rfl 60 _ A5.out.swap2.head (by kernel_rfl) rfl (by kernel_rfl) ?_))
    have AF := Aside0.mk (A5.out.swap2.row (vs' := tkv (j : Int) g m 1 (x0 : Int)) (NE2.out _))
    refine bodyPost_ret (results_cell_row rfl _ _ (bx + 1) 60 (tkv (j : Int) g m 1 (x0 : Int)).toArray (0, 0) _ rfl AF.out.head Tryd.underlying60 rfl (by kernel_rfl)) rfl ?_
    exact ⟨rfl, AF.out.drop.drop⟩

set_option maxHeartbeats 2000000 in
set_option maxRecDepth 100000 in
theorem step_swap {W : World} {B2 ga gc n k : Nat} {w : World} {vals : List Int} {ks : List (Nat × List Value)} (j : Nat) (g m : Int) (x : Nat) (y : Nat) (CL : ∀ w, LaidSlot.Cells w → Calls Tryd.prog 29 #[.int .u64 (x : Int), .int .i64 m] w fun r w' => r = .returned (.int .u64 (y : Int)) ∧ Below w.heap.size w w') (gl : LaidSlot.Cells W) (hj : j < n) (hk : k ≤ 98) (hv : vals[j]?.getD 0 = (x : Int)) (h : AS W B2 ga gc n w vals k ks) :
    Calls Tryd.prog 33 #[.agg #[.int .i64 (j : Int), .int .i64 g, .int .i64 m, .int .i64 1, .int .u64 (x : Int)], .pointer (some ⟨ga, 0, none⟩)] w fun r w' => r = .returned (.agg #[.int .i64 (j : Int), .int .i64 g, .int .i64 m, .int .i64 2, .int .u64 (y : Int)]) ∧ AS W B2 ga gc n w' (vals.set j (y : Int)) (k + 1) ks := by
  have CC := Aside0.mk CL
  clear CL
  have hu60 := Tryd.underlying60
  have H := Aside0.mk h
  have GL := Aside0.mk gl
  have hz := Cells.size gl
  clear h gl
  go_enter Tryd.func33, Tryd.ntmps33
  go_upto_region 1 with fail
  obtain ⟨bx, hbx⟩ : ∃ x, w.heap.size = x := ⟨_, rfl⟩
  have NK := Aside0.mk (show ∀ q ∈ ks, q.1 < bx from fun q hq => hbx ▸ (H.out.keep q hq).1.lt)
  have WB := Aside0.mk (show W.heap.size ≤ bx from hbx ▸ H.out.below.size)
  have A1 := Aside0.mk (show AS W B2 ga gc n ((w.alloc (.cells #[.int .i64 (j : Int), .int .i64 g, .int .i64 m, .int .i64 1, .int .u64 (x : Int)] 60)).alloc (.cells #[.int .i64 0, .int .i64 0, .int .i64 0, .int .i64 0, .int .u64 0] 60)) vals k ((bx, tkv j g m 1 x) :: (bx + 1, tkv 0 0 0 0 0) :: ks) from by
    subst hbx
    have h1 := H.out.next ((Below.refl w.heap.size w).alloc (Nat.le_refl _) (.cells #[.int .i64 (j : Int), .int .i64 g, .int .i64 m, .int .i64 1, .int .u64 (x : Int)] 60))
    have h2 := h1.next ((Below.refl _ _).alloc (Nat.le_refl _) (.cells #[.int .i64 0, .int .i64 0, .int .i64 0, .int .i64 0, .int .u64 0] 60))
    have h3 := h2.add (bx := w.heap.size + 1) (vs := tkv 0 0 0 0 0) (heap_new' _ (by simp)) (by have := WB.out; omega)
    exact h3.add (bx := w.heap.size) (vs := tkv j g m 1 x) (heap_old (heap_new _ _)) WB.out)
  obtain ⟨w1, hw1⟩ : ∃ ww, (w.alloc (.cells #[.int .i64 (j : Int), .int .i64 g, .int .i64 m, .int .i64 1, .int .u64 (x : Int)] 60)).alloc (.cells #[.int .i64 0, .int .i64 0, .int .i64 0, .int .i64 0, .int .u64 0] 60) = ww := ⟨_, rfl⟩
  rw [hw1] at A1 ⊢
  try simp only [hbx, World.alloc, Array.size_push]
  have NE := Aside0.mk (show ∀ q ∈ (bx + 1, tkv 0 0 0 0 0) :: ks, q.1 ≠ bx from fun q hq => by
    rcases List.mem_cons.1 hq with rfl | hq
    · simp
    · have := NK.out q hq; omega)
  have NE2 := Aside0.mk (show ∀ vs, ∀ q ∈ (bx, vs) :: ks, q.1 ≠ bx + 1 from fun vs q hq => by
    rcases List.mem_cons.1 hq with rfl | hq
    · simp
    · have := NK.out q hq; omega)
  clear hw1 hbx H
  have c0 := A1.out.head.cell 0
  have c2 := A1.out.head.cell 2
  have c3 := A1.out.head.cell 3
  have c4 := A1.out.head.cell 4
  simp only [tkv, List.getElem?_cons_zero, List.getElem?_cons_succ, List.set_cons_zero, List.set_cons_succ] at c0 c2 c3 c4
  go_wp2_with fail
  refine (CC.out _ (Cells.below GL.out A1.out.below hz)).mono ?_
  rintro e w2 ⟨rfl, hb⟩
  have A2 := Aside0.mk (A1.out.next hb)
  have f3 := A2.out.head.free 3
  clear hb c0 c2 c3 c4 CC A1
  have d0 := A2.out.head.cell 0
  have d3 := A2.out.head.cell 3
  have d4 := A2.out.head.cell 4
  simp only [tkv, List.getElem?_cons_zero, List.getElem?_cons_succ, List.set_cons_zero, List.set_cons_succ] at d0 d3 d4
  have A3 := Aside0.mk (A2.out.put 3 (.int .i64 0) NE.out)
  go_wp2_with fail
  refine (swap_as j (x : Int) (y : Int) hv hj hk A3.out).mono ?_
  rintro e w3 ⟨rfl, h3⟩
  have A4 := Aside0.mk h3
  have f3 := A4.out.head.free 3
  have f4 := A4.out.head.free 4
  clear h3 d0 d3 d4 A2 A3 hv
  have c3 := A4.out.head.cell 3
  have c4 := A4.out.head.cell 4
  simp only [tkv, List.getElem?_cons_zero, List.getElem?_cons_succ, List.set_cons_zero, List.set_cons_succ] at c3 c4
  have A5 := Aside0.mk ((A4.out.put 4 (.int .u64 (y : Int)) NE.out).put 3 (.int .i64 2) NE.out)
  go_upto_region 12 with fail
  have e0 := A5.out.head.cell 0
  have e1 := A5.out.head.cell 1
  have e2 := A5.out.head.cell 2
  have e3 := A5.out.head.cell 3
  have e4 := A5.out.head.cell 4
  simp only [tkv, List.getElem?_cons_zero, List.getElem?_cons_succ, List.set_cons_zero, List.set_cons_succ] at e0 e1 e2 e3 e4
  go_wp2_with (first | ((with_reducible refine gate_store (t := 60) (p := 4) (v := .tmp 40) rfl ?_); refine wpList_store_row rfl 60 (.tmp 4) (.tmp 40) rfl (bx + 1) ([.int .i64 (j : Int), .int .i64 g, .int .i64 m, .int .i64 2, .int .u64 (y : Int)] : List Value).toArray rfl rfl 60 _ A5.out.swap2.head (by kernel_rfl) rfl (by kernel_rfl) ?_))
  have AF := Aside0.mk (A5.out.swap2.row (vs' := tkv (j : Int) g m 2 (y : Int)) (NE2.out _))
  refine bodyPost_ret (results_cell_row rfl _ _ (bx + 1) 60 (tkv (j : Int) g m 2 (y : Int)).toArray (0, 0) _ rfl AF.out.head Tryd.underlying60 rfl (by kernel_rfl)) rfl ?_
  exact ⟨rfl, AF.out.drop.drop⟩
set_option maxHeartbeats 2000000 in
set_option maxRecDepth 100000 in
theorem step_lost {W : World} {B2 ga gc n k : Nat} {w : World} {vals : List Int} {ks : List (Nat × List Value)} (j : Nat) (g m : Int) (x : Nat) (y : Nat) (CL : ∀ w, LaidSlot.Cells w → Calls Tryd.prog 29 #[.int .u64 (x : Int), .int .i64 m] w fun r w' => r = .returned (.int .u64 (y : Int)) ∧ Below w.heap.size w w') (gl : LaidSlot.Cells W) (hj : j < n) (hk : k ≤ 98) (hv : vals[j]?.getD 0 ≠ (x : Int)) (h : AS W B2 ga gc n w vals k ks) :
    Calls Tryd.prog 33 #[.agg #[.int .i64 (j : Int), .int .i64 g, .int .i64 m, .int .i64 1, .int .u64 (x : Int)], .pointer (some ⟨ga, 0, none⟩)] w fun r w' => r = .returned (.agg #[.int .i64 (j : Int), .int .i64 g, .int .i64 m, .int .i64 0, .int .u64 (x : Int)]) ∧ AS W B2 ga gc n w' vals (k + 1) ks := by
  have CC := Aside0.mk CL
  clear CL
  have hu60 := Tryd.underlying60
  have H := Aside0.mk h
  have GL := Aside0.mk gl
  have hz := Cells.size gl
  clear h gl
  go_enter Tryd.func33, Tryd.ntmps33
  go_upto_region 1 with fail
  obtain ⟨bx, hbx⟩ : ∃ x, w.heap.size = x := ⟨_, rfl⟩
  have NK := Aside0.mk (show ∀ q ∈ ks, q.1 < bx from fun q hq => hbx ▸ (H.out.keep q hq).1.lt)
  have WB := Aside0.mk (show W.heap.size ≤ bx from hbx ▸ H.out.below.size)
  have A1 := Aside0.mk (show AS W B2 ga gc n ((w.alloc (.cells #[.int .i64 (j : Int), .int .i64 g, .int .i64 m, .int .i64 1, .int .u64 (x : Int)] 60)).alloc (.cells #[.int .i64 0, .int .i64 0, .int .i64 0, .int .i64 0, .int .u64 0] 60)) vals k ((bx, tkv j g m 1 x) :: (bx + 1, tkv 0 0 0 0 0) :: ks) from by
    subst hbx
    have h1 := H.out.next ((Below.refl w.heap.size w).alloc (Nat.le_refl _) (.cells #[.int .i64 (j : Int), .int .i64 g, .int .i64 m, .int .i64 1, .int .u64 (x : Int)] 60))
    have h2 := h1.next ((Below.refl _ _).alloc (Nat.le_refl _) (.cells #[.int .i64 0, .int .i64 0, .int .i64 0, .int .i64 0, .int .u64 0] 60))
    have h3 := h2.add (bx := w.heap.size + 1) (vs := tkv 0 0 0 0 0) (heap_new' _ (by simp)) (by have := WB.out; omega)
    exact h3.add (bx := w.heap.size) (vs := tkv j g m 1 x) (heap_old (heap_new _ _)) WB.out)
  obtain ⟨w1, hw1⟩ : ∃ ww, (w.alloc (.cells #[.int .i64 (j : Int), .int .i64 g, .int .i64 m, .int .i64 1, .int .u64 (x : Int)] 60)).alloc (.cells #[.int .i64 0, .int .i64 0, .int .i64 0, .int .i64 0, .int .u64 0] 60) = ww := ⟨_, rfl⟩
  rw [hw1] at A1 ⊢
  try simp only [hbx, World.alloc, Array.size_push]
  have NE := Aside0.mk (show ∀ q ∈ (bx + 1, tkv 0 0 0 0 0) :: ks, q.1 ≠ bx from fun q hq => by
    rcases List.mem_cons.1 hq with rfl | hq
    · simp
    · have := NK.out q hq; omega)
  have NE2 := Aside0.mk (show ∀ vs, ∀ q ∈ (bx, vs) :: ks, q.1 ≠ bx + 1 from fun vs q hq => by
    rcases List.mem_cons.1 hq with rfl | hq
    · simp
    · have := NK.out q hq; omega)
  clear hw1 hbx H
  have c0 := A1.out.head.cell 0
  have c2 := A1.out.head.cell 2
  have c3 := A1.out.head.cell 3
  have c4 := A1.out.head.cell 4
  simp only [tkv, List.getElem?_cons_zero, List.getElem?_cons_succ, List.set_cons_zero, List.set_cons_succ] at c0 c2 c3 c4
  go_wp2_with fail
  refine (CC.out _ (Cells.below GL.out A1.out.below hz)).mono ?_
  rintro e w2 ⟨rfl, hb⟩
  have A2 := Aside0.mk (A1.out.next hb)
  have f3 := A2.out.head.free 3
  clear hb c0 c2 c3 c4 CC A1
  have d0 := A2.out.head.cell 0
  have d3 := A2.out.head.cell 3
  have d4 := A2.out.head.cell 4
  simp only [tkv, List.getElem?_cons_zero, List.getElem?_cons_succ, List.set_cons_zero, List.set_cons_succ] at d0 d3 d4
  have A3 := Aside0.mk (A2.out.put 3 (.int .i64 0) NE.out)
  go_wp2_with fail
  refine (swapn_as j (x : Int) (y : Int) hv hj hk A3.out).mono ?_
  rintro e w3 ⟨rfl, h3⟩
  have A4 := Aside0.mk h3
  clear h3 d0 d3 d4 A2 A3 hv
  go_upto_region 12 with fail
  have e0 := A4.out.head.cell 0
  have e1 := A4.out.head.cell 1
  have e2 := A4.out.head.cell 2
  have e3 := A4.out.head.cell 3
  have e4 := A4.out.head.cell 4
  simp only [tkv, List.getElem?_cons_zero, List.getElem?_cons_succ, List.set_cons_zero, List.set_cons_succ] at e0 e1 e2 e3 e4
  go_wp2_with (first | ((with_reducible refine gate_store (t := 60) (p := 4) (v := .tmp 40) rfl ?_); refine wpList_store_row rfl 60 (.tmp 4) (.tmp 40) rfl (bx + 1) ([.int .i64 (j : Int), .int .i64 g, .int .i64 m, .int .i64 0, .int .u64 (x : Int)] : List Value).toArray rfl rfl 60 _ A4.out.swap2.head (by kernel_rfl) rfl (by kernel_rfl) ?_))
  have AF := Aside0.mk (A4.out.swap2.row (vs' := tkv (j : Int) g m 0 (x : Int)) (NE2.out _))
  refine bodyPost_ret (results_cell_row rfl _ _ (bx + 1) 60 (tkv (j : Int) g m 0 (x : Int)).toArray (0, 0) _ rfl AF.out.head Tryd.underlying60 rfl (by kernel_rfl)) rfl ?_
  exact ⟨rfl, AF.out.drop.drop⟩
set_option maxHeartbeats 2000000 in
set_option maxRecDepth 100000 in
theorem step_stay2 {W : World} {B2 ga gc n k : Nat} {w : World} {vals : List Int} {ks : List (Nat × List Value)} (j : Nat) (g m : Int) (x : Nat) (h : AS W B2 ga gc n w vals k ks) (gl : LaidSlot.Cells W) :
    Calls Tryd.prog 33 #[.agg #[.int .i64 (j : Int), .int .i64 g, .int .i64 m, .int .i64 2, .int .u64 (x : Int)], .pointer (some ⟨ga, 0, none⟩)] w fun r w' => r = .returned (.agg #[.int .i64 (j : Int), .int .i64 g, .int .i64 m, .int .i64 2, .int .u64 (x : Int)]) ∧ AS W B2 ga gc n w' vals k ks := by
  have hu60 := Tryd.underlying60
  have H := Aside0.mk h
  have GL := Aside0.mk gl
  have hz := Cells.size gl
  clear h gl
  go_enter Tryd.func33, Tryd.ntmps33
  go_upto_region 1 with fail
  obtain ⟨bx, hbx⟩ : ∃ x, w.heap.size = x := ⟨_, rfl⟩
  have NK := Aside0.mk (show ∀ q ∈ ks, q.1 < bx from fun q hq => hbx ▸ (H.out.keep q hq).1.lt)
  have WB := Aside0.mk (show W.heap.size ≤ bx from hbx ▸ H.out.below.size)
  have A1 := Aside0.mk (show AS W B2 ga gc n ((w.alloc (.cells #[.int .i64 (j : Int), .int .i64 g, .int .i64 m, .int .i64 2, .int .u64 (x : Int)] 60)).alloc (.cells #[.int .i64 0, .int .i64 0, .int .i64 0, .int .i64 0, .int .u64 0] 60)) vals k ((bx, tkv j g m 2 x) :: (bx + 1, tkv 0 0 0 0 0) :: ks) from by
    subst hbx
    have h1 := H.out.next ((Below.refl w.heap.size w).alloc (Nat.le_refl _) (.cells #[.int .i64 (j : Int), .int .i64 g, .int .i64 m, .int .i64 2, .int .u64 (x : Int)] 60))
    have h2 := h1.next ((Below.refl _ _).alloc (Nat.le_refl _) (.cells #[.int .i64 0, .int .i64 0, .int .i64 0, .int .i64 0, .int .u64 0] 60))
    have h3 := h2.add (bx := w.heap.size + 1) (vs := tkv 0 0 0 0 0) (heap_new' _ (by simp)) (by have := WB.out; omega)
    exact h3.add (bx := w.heap.size) (vs := tkv j g m 2 x) (heap_old (heap_new _ _)) WB.out)
  obtain ⟨w1, hw1⟩ : ∃ ww, (w.alloc (.cells #[.int .i64 (j : Int), .int .i64 g, .int .i64 m, .int .i64 2, .int .u64 (x : Int)] 60)).alloc (.cells #[.int .i64 0, .int .i64 0, .int .i64 0, .int .i64 0, .int .u64 0] 60) = ww := ⟨_, rfl⟩
  rw [hw1] at A1 ⊢
  try simp only [hbx, World.alloc, Array.size_push]
  have NE := Aside0.mk (show ∀ q ∈ (bx + 1, tkv 0 0 0 0 0) :: ks, q.1 ≠ bx from fun q hq => by
    rcases List.mem_cons.1 hq with rfl | hq
    · simp
    · have := NK.out q hq; omega)
  have NE2 := Aside0.mk (show ∀ vs, ∀ q ∈ (bx, vs) :: ks, q.1 ≠ bx + 1 from fun vs q hq => by
    rcases List.mem_cons.1 hq with rfl | hq
    · simp
    · have := NK.out q hq; omega)
  clear hw1 hbx H
  have c3 := A1.out.head.cell 3
  simp only [tkv, List.getElem?_cons_zero, List.getElem?_cons_succ, List.set_cons_zero, List.set_cons_succ] at c3
  go_upto_region 12 with fail
  have e0 := A1.out.head.cell 0
  have e1 := A1.out.head.cell 1
  have e2 := A1.out.head.cell 2
  have e3 := A1.out.head.cell 3
  have e4 := A1.out.head.cell 4
  simp only [tkv, List.getElem?_cons_zero, List.getElem?_cons_succ, List.set_cons_zero, List.set_cons_succ] at e0 e1 e2 e3 e4
  go_wp2_with (first | ((with_reducible refine gate_store (t := 60) (p := 4) (v := .tmp 40) rfl ?_); refine wpList_store_row rfl 60 (.tmp 4) (.tmp 40) rfl (bx + 1) ([.int .i64 (j : Int), .int .i64 g, .int .i64 m, .int .i64 2, .int .u64 (x : Int)] : List Value).toArray rfl rfl 60 _ A1.out.swap2.head (by kernel_rfl) rfl (by kernel_rfl) ?_))
  have AF := Aside0.mk (A1.out.swap2.row (vs' := tkv (j : Int) g m 2 (x : Int)) (NE2.out _))
  refine bodyPost_ret (results_cell_row rfl _ _ (bx + 1) 60 (tkv (j : Int) g m 2 (x : Int)).toArray (0, 0) _ rfl AF.out.head Tryd.underlying60 rfl (by kernel_rfl)) rfl ?_
  exact ⟨rfl, AF.out.drop.drop⟩
set_option maxHeartbeats 2000000 in
set_option maxRecDepth 100000 in
theorem step_stay3 {W : World} {B2 ga gc n k : Nat} {w : World} {vals : List Int} {ks : List (Nat × List Value)} (j : Nat) (g m : Int) (x : Nat) (h : AS W B2 ga gc n w vals k ks) (gl : LaidSlot.Cells W) :
    Calls Tryd.prog 33 #[.agg #[.int .i64 (j : Int), .int .i64 g, .int .i64 m, .int .i64 3, .int .u64 (x : Int)], .pointer (some ⟨ga, 0, none⟩)] w fun r w' => r = .returned (.agg #[.int .i64 (j : Int), .int .i64 g, .int .i64 m, .int .i64 3, .int .u64 (x : Int)]) ∧ AS W B2 ga gc n w' vals k ks := by
  have hu60 := Tryd.underlying60
  have H := Aside0.mk h
  have GL := Aside0.mk gl
  have hz := Cells.size gl
  clear h gl
  go_enter Tryd.func33, Tryd.ntmps33
  go_upto_region 1 with fail
  obtain ⟨bx, hbx⟩ : ∃ x, w.heap.size = x := ⟨_, rfl⟩
  have NK := Aside0.mk (show ∀ q ∈ ks, q.1 < bx from fun q hq => hbx ▸ (H.out.keep q hq).1.lt)
  have WB := Aside0.mk (show W.heap.size ≤ bx from hbx ▸ H.out.below.size)
  have A1 := Aside0.mk (show AS W B2 ga gc n ((w.alloc (.cells #[.int .i64 (j : Int), .int .i64 g, .int .i64 m, .int .i64 3, .int .u64 (x : Int)] 60)).alloc (.cells #[.int .i64 0, .int .i64 0, .int .i64 0, .int .i64 0, .int .u64 0] 60)) vals k ((bx, tkv j g m 3 x) :: (bx + 1, tkv 0 0 0 0 0) :: ks) from by
    subst hbx
    have h1 := H.out.next ((Below.refl w.heap.size w).alloc (Nat.le_refl _) (.cells #[.int .i64 (j : Int), .int .i64 g, .int .i64 m, .int .i64 3, .int .u64 (x : Int)] 60))
    have h2 := h1.next ((Below.refl _ _).alloc (Nat.le_refl _) (.cells #[.int .i64 0, .int .i64 0, .int .i64 0, .int .i64 0, .int .u64 0] 60))
    have h3 := h2.add (bx := w.heap.size + 1) (vs := tkv 0 0 0 0 0) (heap_new' _ (by simp)) (by have := WB.out; omega)
    exact h3.add (bx := w.heap.size) (vs := tkv j g m 3 x) (heap_old (heap_new _ _)) WB.out)
  obtain ⟨w1, hw1⟩ : ∃ ww, (w.alloc (.cells #[.int .i64 (j : Int), .int .i64 g, .int .i64 m, .int .i64 3, .int .u64 (x : Int)] 60)).alloc (.cells #[.int .i64 0, .int .i64 0, .int .i64 0, .int .i64 0, .int .u64 0] 60) = ww := ⟨_, rfl⟩
  rw [hw1] at A1 ⊢
  try simp only [hbx, World.alloc, Array.size_push]
  have NE := Aside0.mk (show ∀ q ∈ (bx + 1, tkv 0 0 0 0 0) :: ks, q.1 ≠ bx from fun q hq => by
    rcases List.mem_cons.1 hq with rfl | hq
    · simp
    · have := NK.out q hq; omega)
  have NE2 := Aside0.mk (show ∀ vs, ∀ q ∈ (bx, vs) :: ks, q.1 ≠ bx + 1 from fun vs q hq => by
    rcases List.mem_cons.1 hq with rfl | hq
    · simp
    · have := NK.out q hq; omega)
  clear hw1 hbx H
  have c3 := A1.out.head.cell 3
  simp only [tkv, List.getElem?_cons_zero, List.getElem?_cons_succ, List.set_cons_zero, List.set_cons_succ] at c3
  go_upto_region 12 with fail
  have e0 := A1.out.head.cell 0
  have e1 := A1.out.head.cell 1
  have e2 := A1.out.head.cell 2
  have e3 := A1.out.head.cell 3
  have e4 := A1.out.head.cell 4
  simp only [tkv, List.getElem?_cons_zero, List.getElem?_cons_succ, List.set_cons_zero, List.set_cons_succ] at e0 e1 e2 e3 e4
  go_wp2_with (first | ((with_reducible refine gate_store (t := 60) (p := 4) (v := .tmp 40) rfl ?_); refine wpList_store_row rfl 60 (.tmp 4) (.tmp 40) rfl (bx + 1) ([.int .i64 (j : Int), .int .i64 g, .int .i64 m, .int .i64 3, .int .u64 (x : Int)] : List Value).toArray rfl rfl 60 _ A1.out.swap2.head (by kernel_rfl) rfl (by kernel_rfl) ?_))
  have AF := Aside0.mk (A1.out.swap2.row (vs' := tkv (j : Int) g m 3 (x : Int)) (NE2.out _))
  refine bodyPost_ret (results_cell_row rfl _ _ (bx + 1) 60 (tkv (j : Int) g m 3 (x : Int)).toArray (0, 0) _ rfl AF.out.head Tryd.underlying60 rfl (by kernel_rfl)) rfl ?_
  exact ⟨rfl, AF.out.drop.drop⟩

end Go.Proofs.YthonkcldddfpnaaDoor.Settle
