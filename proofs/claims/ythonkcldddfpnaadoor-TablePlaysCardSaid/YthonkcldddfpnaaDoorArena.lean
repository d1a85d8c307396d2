/- An arena: contracts of its functions. -/
import Derived.Test.YthonkcldddfpnaaDoorPSettleStalex1
import Derived.Test.YthonkcldddfpnaaDoorAid
import Derived.Test.YthonkcldddfpnaaDoorBlk
import Derived.Test.YthonkcldddfpnaaDoorVals
import Derived.WalkKit
import Derived.BigQuiet
import Derived.BigRegion
import Derived.RegionTactic
import Derived.KernelRfl
import Derived.Deep.RegionWith
namespace Go.Proofs.YthonkcldddfpnaaDoor.Arena
open Go.RowKit Go.Proofs.YthonkcldddfpnaaDoorW.PrintWords Go.Proofs.YthonkcldddfpnaaDoorW.PrintLast Go.Proofs.YthonkcldddfpnaaDoorW.PrintMore Go.Proofs.YthonkcldddfpnaaDoor.Aid Go.Proofs.YthonkcldddfpnaaDoor.Quiet Go.Proofs.YthonkcldddfpnaaDoor.Blk Go.Proofs.YthonkcldddfpnaaDoor.State Go.Proofs.YthonkcldddfpnaaDoor.Vals
set_option linter.unusedVariables false
attribute [local go_sem] max2_int min2_int max_two min_two

theorem own_below {w w' : World} {base : Nat} {e : TypeId} {v : Value} {n : Nat} {xs : List Value} (h : w.ownsRow base e 1 v n xs) (hb : Below w.heap.size w w') : w'.ownsRow base e 1 v n xs := by
  refine ⟨h.1, ?_⟩
  rcases h.2 with h | ⟨g, cap, cur, hv, hb1, hg, rest⟩
  · exact .inl h
  · exact .inr ⟨g, cap, cur, hv, hb1, (hb.block g (Quiet.blk_lt hg)).trans hg, rest⟩
theorem own_keep {w w' : World} {base : Nat} {e : TypeId} {v : Value} {n : Nat} {xs : List Value} (h : w.ownsRow base e 1 v n xs) (hk : ∀ k, base ≤ k → k < w.heap.size → w'.heap[k]? = w.heap[k]?) : w'.ownsRow base e 1 v n xs := by
  refine ⟨h.1, ?_⟩
  rcases h.2 with h | ⟨g, cap, cur, hv, hb1, hg, rest⟩
  · exact .inl h
  · exact .inr ⟨g, cap, cur, hv, hb1, (hk g hb1 (Quiet.blk_lt hg)).trans hg, rest⟩
theorem reads_C {w : World} {A : Option Addr} {xs : List Int} (h : ReadsInt w .i64 A xs.length xs) : Kd.C (Kd.int .i64) w A xs.length xs := by
  refine ⟨rfl, h.2.1, fun hn => ?_⟩
  obtain ⟨ad, hA, hc⟩ := h.2.2 hn
  refine ⟨ad, hA, fun j p hj => ⟨[.int .i64 p], rfl, rfl, fun i u hu => ?_⟩⟩
  obtain ⟨hj', hp⟩ := List.getElem?_eq_some_iff.1 hj
  have hi : i = 0 := by have := (List.getElem?_eq_some_iff.1 hu).1; simpa using this
  subst hi
  have e : u = .int .i64 p := by simpa using hu.symm
  subst e
  have := hc j hj'
  rw [List.getD_eq_getElem?_getD, hj] at this
  rw [show ad.add (j * (Kd.int .i64).sz + 0) = ad.add j by show Addr.add _ (j * 1 + 0) = _; simp]
  exact this
theorem info3 : (Tryd.prog.info? 3).map (fun i => (i.zero, i.size, i.bytes)) = some (some (.int .i64 0), 1, 8) := by kernel_rfl
theorem set_ne {w : World} {p : Addr} {v : Value} (k : Nat) (h : k ≠ p.block) : (w.setCell p v).heap[k]? = w.heap[k]? := Below.heap_setCell w p v k h
theorem setOther {kk : IntKind} {t : TypeId} {w : World} {g : Nat} {L : List Int} (h : Holds kk t w g L) {p : Addr} {v : Value} (hg : p.block ≠ g) : Holds kk t (w.setCell p v) g L := (set_ne g (Ne.symm hg)).trans h
/-- The first cell is touched. -/
theorem info26 : (Tryd.prog.info? 26).map (fun i => (i.zero, i.size, i.bytes)) = some (some (.int .u64 0), 1, 8) := by kernel_rfl
/-- An arena of n cells: its values, the touched ones, how many others. -/
structure St (B2 g gc n : Nat) (w : World) (TV : Value) (vals T : List Int) (s : Int) : Prop where
  box : HoldsV 96 w g [.slice (some ⟨gc, 0, none⟩) n n, TV, .int .i64 s]
  own : w.ownsRow B2 3 1 TV T.length (nums .i64 T)
  cells : Holds .u64 26 w gc vals
  len : vals.length = n
  ne : g ≠ gc
  lt : g < B2 ∧ gc < B2
  pos : 1 ≤ n ∧ n ≤ 16
  few : T.length ≤ 100 ∧ 0 ≤ s ∧ s ≤ 100
  size : B2 ≤ w.heap.size
/-- What else is as it was. -/
structure Fr (g gc : Nat) (TV TV' : Value) (w w' : World) : Prop where
  os : w'.os = w.os
  tape : w'.tape = w.tape
  output : w'.output = w.output
  size : w.heap.size ≤ w'.heap.size
  block : ∀ k, k < w.heap.size → k ≠ g → k ≠ gc → some k ≠ TV.ownBlock → w'.heap[k]? = w.heap[k]?
  at_ : TV'.ownBlock = TV.ownBlock ∨ TV'.ownBlock = none ∨ ∃ b, TV'.ownBlock = some b ∧ w.heap.size ≤ b
theorem Fr.of_below {g gc : Nat} {TV : Value} {w w' : World} (h : Below w.heap.size w w') : Fr g gc TV TV w w' := ⟨h.os, h.tape, h.output, h.size, fun k hk _ _ _ => h.block k hk, Or.inl rfl⟩
theorem Fr.trans {g gc : Nat} {A B C : Value} {a b c : World} (h : Fr g gc A B a b) (k : Fr g gc B C b c) : Fr g gc A C a c := by
  refine ⟨k.os.trans h.os, k.tape.trans h.tape, k.output.trans h.output, Nat.le_trans h.size k.size, fun i hi h1 h2 h3 => (k.block i (Nat.lt_of_lt_of_le hi h.size) h1 h2 ?_).trans (h.block i hi h1 h2 h3), ?_⟩
  · rcases h.at_ with e | e | ⟨b', e, hb⟩
    · rw [e]; exact h3
    · rw [e]; simp
    · rw [e]; intro he; injection he with he; omega
  · rcases k.at_ with e | e | ⟨b', e, hb⟩
    · rw [e]; exact h.at_
    · exact Or.inr (Or.inl e)
    · exact Or.inr (Or.inr ⟨b', e, Nat.le_trans h.size hb⟩)
theorem Fr.set {g gc : Nat} {A B : Value} {a b : World} (h : Fr g gc A B a b) (p : Addr) (v : Value) (hp : p.block = g ∨ p.block = gc) : Fr g gc A B a (b.setCell p v) :=
  ⟨h.os, h.tape, h.output, by simpa [World.setCell] using h.size, fun k hk h1 h2 h3 => (set_ne k (by rcases hp with e | e <;> omega)).trans (h.block k hk h1 h2 h3), h.at_⟩
theorem Fr.below {g gc : Nat} {TV TV' : Value} {W w w' : World} {B : Nat} (h : Fr g gc TV TV' w w') (hb : Below B W w) (h1 : B ≤ g) (h2 : B ≤ gc) (h3 : ∀ k, TV.ownBlock = some k → B ≤ k) (hB : B ≤ w.heap.size) : Below B W w' :=
  hb.trans ⟨h.os, h.tape, h.output, h.size, fun k hk => h.block k (by omega) (by omega) (by omega) (fun e => by have := h3 k e.symm; omega)⟩
section
variable {B2 g gc n : Nat} {w w' : World} {TV : Value} {vals T : List Int} {s : Int}
theorem St.next (h : St B2 g gc n w TV vals T s) (hb : Below w.heap.size w w') : St B2 g gc n w' TV vals T s :=
  ⟨h.box.below' hb, own_below h.own hb, h.cells.below hb h.cells.lt, h.len, h.ne, h.lt, h.pos, h.few, Nat.le_trans h.size hb.size⟩
theorem St.drewN (h : St B2 g gc n w TV vals T s) (m : Nat) : St B2 g gc n (w.drewN m) TV vals T s := h.next (below_drewN (Below.refl _ _) m)
theorem St.slice (h : St B2 g gc n w TV vals T s) : w.cell? ⟨g, 0, none⟩ = some (.slice (some ⟨gc, 0, none⟩) n n) := h.box.cell 0
theorem St.val (h : St B2 g gc n w TV vals T s) {j : Nat} (hj : j < n) : w.cell? ⟨gc, j, none⟩ = some (.int .u64 (vals[j]?.getD 0)) := h.cells.cell (by rw [h.len]; exact hj)
theorem St.put (h : St B2 g gc n w TV vals T s) (j : Nat) (y : Int) : St B2 g gc n (w.setCell ⟨gc, j, none⟩ (.int .u64 y)) TV (vals.set j y) T s :=
  ⟨h.box.other _ h.ne, own_keep h.own (fun k hk _ => set_ne k (by have := h.lt; show k ≠ gc; omega)), h.cells.set j y, by simp [h.len], h.ne, h.lt, h.pos, h.few, by simpa [World.setCell] using h.size⟩
end
def addT (T : List Int) (j : Int) : List Int := if j ∈ T then T else T ++ [j]

theorem index_loop (T : List Int) (v : Int) : ∀ (k i : Nat), i ≤ T.length → T.length - i < k → T.length ≤ 1000000 →
    ∃ r, PSettleStale.slices_Index_int_int.l0 k T v (T.length : Int) (i : Int) = some r ∧ decide (r ≥ 0) = decide (v ∈ T.drop i) := by
  intro k
  induction k with
  | zero => intro i h1 h2; omega
  | succ k ih =>
    intro i h1 h2 h3
    simp only [PSettleStale.slices_Index_int_int.l0]
    by_cases hi : i < T.length
    · rw [if_pos (by omega), if_pos (by omega), if_pos (by omega)]
      have hr : rd T (i : Int) = T[i] := by simp [rd, List.getD_eq_getElem?_getD, hi]
      rw [hr, List.drop_eq_getElem_cons hi]
      by_cases hv : v = T[i]
      · rw [if_pos hv]
        exact ⟨_, rfl, by simp [← hv]⟩
      · rw [if_neg hv, w64 _ (by omega) (by omega), show ((i : Int) + 1) = ((i + 1 : Nat) : Int) by omega]
        obtain ⟨r, e1, e2⟩ := ih (i + 1) (by omega) (by omega) h3
        exact ⟨r, e1, by rw [e2]; exact decide_eq_decide.2 ⟨fun h => List.mem_cons.2 (Or.inr h), fun h => (List.mem_cons.1 h).resolve_left hv⟩⟩
    · rw [if_neg (by omega)]
      exact ⟨-1, rfl, by rw [List.drop_of_length_le (by omega)]; simp⟩
theorem contains_f (T : List Int) (v : Int) (h : T.length ≤ 1000000) : PSettleStale.slices_Contains_int_int.f (T.length + 1) T v = some (decide (v ∈ T)) := by
  obtain ⟨r, h1, h2⟩ := index_loop T v (T.length + 1) 0 (by omega) (by omega) h
  unfold PSettleStale.slices_Contains_int_int.f PSettleStale.slices_Index_int_int.f
  rw [show ((0 : Nat) : Int) = 0 from rfl] at h1
  rw [h1]
  simp only [Option.bind_some]
  rw [h2, List.drop_zero]

theorem touch_out {B2 g gc n : Nat} {w : World} {TV : Value} {vals T : List Int} {s : Int} (at_ : Int) (h : St B2 g gc n w TV vals T s) (ho : at_ < 0 ∨ (n : Int) ≤ at_) (hs : s ≤ 99) :
    Calls Tryd.prog 57 #[.pointer (some ⟨g, 0, none⟩), .int .i64 at_] w fun r w' => r = .returned (.bool false) ∧ St B2 g gc n w' TV vals T (s + 1) ∧ Fr g gc TV TV w w' := by
  have c0 := h.slice
  have c2 : w.cell? ⟨g, 2, none⟩ = some (.int .i64 s) := h.box.cell 2
  have f2 := h.box.free 2
  have hsb := h.few.2
  have fin : St B2 g gc n (w.setCell ⟨g, 2, none⟩ (.int .i64 (s + 1))) TV vals T (s + 1) ∧ Fr g gc TV TV w (w.setCell ⟨g, 2, none⟩ (.int .i64 (s + 1))) :=
    ⟨⟨h.box.set 2 _, own_keep h.own (fun k hk _ => set_ne k (by have := h.lt; show k ≠ g; omega)), setOther h.cells h.ne, h.len, h.ne, h.lt, h.pos, ⟨h.few.1, by omega, by omega⟩, by simpa [World.setCell] using h.size⟩,
      (Fr.of_below (Below.refl _ _)).set _ _ (Or.inl rfl)⟩
  have FIN := Aside0.mk fin
  clear fin h
  by_cases h0 : at_ < 0
  · have d1 : decide (at_ < 0) = true := decide_eq_true h0
    clear h0 ho
    go_enter Tryd.func57, Tryd.ntmps57
    go_wp2_with fail
    go_ret
    exact ⟨rfl, FIN.out⟩
  · have d1 : decide (at_ < 0) = false := decide_eq_false h0
    have d2 : decide ((n : Int) ≤ at_) = true := decide_eq_true (by omega)
    clear h0 ho
    go_enter Tryd.func57, Tryd.ntmps57
    go_wp2_with fail
    go_ret
    exact ⟨rfl, FIN.out⟩
set_option maxHeartbeats 1000000 in
theorem touch_in {B2 g gc n : Nat} {w : World} {TV : Value} {vals T : List Int} {s : Int} (j : Nat) (hj : j < n) (h : St B2 g gc n w TV vals T s) (hT : T.length ≤ 99) :
    Calls Tryd.prog 57 #[.pointer (some ⟨g, 0, none⟩), .int .i64 (j : Int)] w fun r w' => r = .returned (.bool true) ∧ ∃ TV', St B2 g gc n w' TV' vals (addT T j) s ∧ Fr g gc TV TV' w w' := by
  obtain ⟨A, c, hTV, hrd⟩ := own_reads h.own
  have hcc : T.length ≤ c := by
    rcases h.own.2 with ⟨e, hn⟩ | ⟨g', cap, cur, e, _, _, hc, _⟩
    · omega
    · rw [hTV] at e
      injection e with e1 e2 e3
      omega
  subst hTV
  have H := Aside0.mk h
  have c0 := h.slice
  have c1 : w.cell? ⟨g, 1, none⟩ = some (.slice A T.length c) := h.box.cell 1
  have f1 := h.box.free 1
  have d1 : decide ((j : Int) < 0) = false := decide_eq_false (by omega)
  have d2 : decide ((n : Int) ≤ (j : Int)) = false := decide_eq_false (by omega)
  have hcont := (PSettleStale.slices_Contains_int_int.calls (T.length + 1) A c T j _ w (reads_C hrd) hcc (contains_f T j (by omega))).mono (R' := fun e w'' => e = .returned (.bool (decide ((j : Int) ∈ T))) ∧ ∃ m, w'' = w.drewN m) fun _ _ ⟨he, hd⟩ => ⟨he, hd.out⟩
  have HLT := Aside0.mk hT
  by_cases hm : (j : Int) ∈ T
  · rw [decide_eq_true hm] at hcont
    have HC := Aside0.mk hcont
    have HA := Aside0.mk (show addT T j = T from if_pos hm)
    clear h hrd hcc hcont hm hT
    go_enter Tryd.func57, Tryd.ntmps57
    go_wp2_with (first | (go_at_call 73; with_reducible refine HC.out.mono ?_; rintro e w1 ⟨rfl, n1, rfl⟩))
    go_ret
    exact ⟨rfl, _, by rw [HA.out]; exact H.out.drewN _, Fr.of_below (below_drewN (Below.refl _ _) _)⟩
  · rw [decide_eq_false hm] at hcont
    have HC := Aside0.mk hcont
    have HA := Aside0.mk (show addT T j = T ++ [(j : Int)] from if_neg hm)
    clear h hrd hcc hcont hm hT
    go_enter Tryd.func57, Tryd.ntmps57
    go_wp2_with (first
      | (go_at_call 73; with_reducible refine HC.out.mono ?_; rintro e w1 ⟨rfl, n1, rfl⟩)
      | ((with_reducible refine gate_builtin (b := .append) (xs := #[.tmp 36, .tmp 38]) rfl ?_); at_builtin; refine print_append_num (w0 := w) B2 rfl (.tmp 36) (.tmp 38) 71 3 .i64 8 rfl Tryd.underlying71 info3 (by decide) (.slice A T.length c) T (j : Int) rfl rfl H.out.own (below_drewN (Below.refl _ _) _) H.out.size (by have := HLT.out; omega) ?_; intro v1 w2 ho hb hg hat; obtain ⟨A1, c3, hv1, hrd1⟩ := own_reads ho; subst hv1; clear hrd1; have HO2 := Aside0.mk ho; have HB2 := Aside0.mk hb; have HG := Aside0.mk hg; have HAT := Aside0.mk hat; clear ho hb hg hat; have k0 : w2.cell? ⟨g, 0, none⟩ = some (.slice (some ⟨gc, 0, none⟩) n n) := (HB2.out.cell (p := ⟨g, 0, none⟩) H.out.lt.1).trans c0; have HG2 := Aside0.mk (H.out.box.below HB2.out H.out.lt.1); have k1 : w2.cell? ⟨g, 1, none⟩ = some (.slice A T.length c) := HG2.out.cell 1; have f2 := HG2.out.free 1))
    go_ret
    refine ⟨rfl, _, ⟨HG2.out.set 1 _, by rw [HA.out]; have ho := HO2.out; simp only [List.length_append, List.length_cons, List.length_nil] at ho ⊢; exact own_keep ho (fun k hk _ => set_ne k (by have := H.out.lt; show k ≠ g; omega)), setOther (H.out.cells.below HB2.out H.out.lt.2) H.out.ne, H.out.len, H.out.ne, H.out.lt, H.out.pos, ?_, ?_⟩, ?_⟩
    · rw [HA.out]
      have := HLT.out
      have := H.out.few
      simp
      omega
    · have := HB2.out.size
      have := H.out.size
      simp [World.setCell]
      omega
    · have hfr : Fr g gc (.slice A T.length c) (.slice A1 (T.length + 1) c3) w w2 := by
        refine ⟨HG.out.os, HG.out.tape, HG.out.output, HG.out.size, fun k hk _ _ h3 => HG.out.block k hk h3, ?_⟩
        rcases HAT.out with e | ⟨b', e, hb⟩
        · exact Or.inl (by simpa using e)
        · exact Or.inr (Or.inr ⟨b', by simpa using e, hb⟩)
      exact hfr.set _ _ (Or.inl rfl)

theorem read_out {B2 g gc n : Nat} {w : World} {TV : Value} {vals T : List Int} {s : Int} (at_ : Int) (h : St B2 g gc n w TV vals T s) (ho : at_ < 0 ∨ (n : Int) ≤ at_) (hs : s ≤ 99) :
    Calls Tryd.prog 58 #[.pointer (some ⟨g, 0, none⟩), .int .i64 at_] w fun r w' => r = .returned (.int .u64 0) ∧ St B2 g gc n w' TV vals T (s + 1) ∧ Fr g gc TV TV w w' := by
  have HT := Aside0.mk (touch_out at_ h ho hs)
  clear h ho hs
  go_enter Tryd.func58, Tryd.ntmps58
  go_wp2_with (first | (go_at_call 57; with_reducible refine HT.out.mono ?_; rintro e w1 ⟨rfl, hS, hF⟩; have HS := Aside0.mk (And.intro hS hF); clear hS hF))
  go_ret
  exact ⟨rfl, HS.out⟩
theorem write_out {B2 g gc n : Nat} {w : World} {TV : Value} {vals T : List Int} {s : Int} (at_ y : Int) (h : St B2 g gc n w TV vals T s) (ho : at_ < 0 ∨ (n : Int) ≤ at_) (hs : s ≤ 99) :
    Calls Tryd.prog 31 #[.pointer (some ⟨g, 0, none⟩), .int .i64 at_, .int .u64 y] w fun r w' => r = .returned (.tuple #[]) ∧ St B2 g gc n w' TV vals T (s + 1) ∧ Fr g gc TV TV w w' := by
  have HT := Aside0.mk (touch_out at_ h ho hs)
  clear h ho hs
  go_enter Tryd.func31, Tryd.ntmps31
  go_wp2_with (first | (go_at_call 57; with_reducible refine HT.out.mono ?_; rintro e w1 ⟨rfl, hS, hF⟩; have HS := Aside0.mk (And.intro hS hF); clear hS hF))
  go_end0
  exact ⟨rfl, HS.out⟩
theorem swap_out {B2 g gc n : Nat} {w : World} {TV : Value} {vals T : List Int} {s : Int} (at_ x y : Int) (h : St B2 g gc n w TV vals T s) (ho : at_ < 0 ∨ (n : Int) ≤ at_) (hs : s ≤ 99) :
    Calls Tryd.prog 59 #[.pointer (some ⟨g, 0, none⟩), .int .i64 at_, .int .u64 x, .int .u64 y] w fun r w' => r = .returned (.bool false) ∧ St B2 g gc n w' TV vals T (s + 1) ∧ Fr g gc TV TV w w' := by
  have HT := Aside0.mk (touch_out at_ h ho hs)
  clear h ho hs
  go_enter Tryd.func59, Tryd.ntmps59
  go_wp2_with (first | (go_at_call 57; with_reducible refine HT.out.mono ?_; rintro e w1 ⟨rfl, hS, hF⟩; have HS := Aside0.mk (And.intro hS hF); clear hS hF))
  go_ret
  exact ⟨rfl, HS.out⟩
theorem read_in {B2 g gc n : Nat} {w : World} {TV : Value} {vals T : List Int} {s : Int} (j : Nat) (hj : j < n) (h : St B2 g gc n w TV vals T s) (hT : T.length ≤ 99) :
    Calls Tryd.prog 58 #[.pointer (some ⟨g, 0, none⟩), .int .i64 (j : Int)] w fun r w' => r = .returned (.int .u64 (vals[j]?.getD 0)) ∧ ∃ TV', St B2 g gc n w' TV' vals (addT T j) s ∧ Fr g gc TV TV' w w' := by
  have HT := Aside0.mk (touch_in j hj h hT)
  clear h hT
  go_enter Tryd.func58, Tryd.ntmps58
  go_wp2_with (first | (go_at_call 57; with_reducible refine HT.out.mono ?_; rintro e w1 ⟨rfl, TV', hS, hF⟩; have c0 := hS.slice; have c1 := hS.val hj; have HS := Aside0.mk (And.intro hS hF); clear hS hF))
  go_ret
  exact ⟨rfl, TV', HS.out⟩
theorem write_in {B2 g gc n : Nat} {w : World} {TV : Value} {vals T : List Int} {s : Int} (j : Nat) (y : Int) (hj : j < n) (h : St B2 g gc n w TV vals T s) (hT : T.length ≤ 99) :
    Calls Tryd.prog 31 #[.pointer (some ⟨g, 0, none⟩), .int .i64 (j : Int), .int .u64 y] w fun r w' => r = .returned (.tuple #[]) ∧ ∃ TV', St B2 g gc n w' TV' (vals.set j y) (addT T j) s ∧ Fr g gc TV TV' w w' := by
  have HT := Aside0.mk (touch_in j hj h hT)
  clear h hT
  go_enter Tryd.func31, Tryd.ntmps31
  go_wp2_with (first | (go_at_call 57; with_reducible refine HT.out.mono ?_; rintro e w1 ⟨rfl, TV', hS, hF⟩; have c0 := hS.slice; have c1 := hS.val hj; have f1 := hS.cells.free j; have HS := Aside0.mk (And.intro hS hF); clear hS hF))
  go_end0
  exact ⟨rfl, TV', HS.out.1.put j y, HS.out.2.set _ _ (Or.inr rfl)⟩
theorem swap_in {B2 g gc n : Nat} {w : World} {TV : Value} {vals T : List Int} {s : Int} (j : Nat) (y : Int) (hj : j < n) (h : St B2 g gc n w TV vals T s) (hT : T.length ≤ 99) :
    Calls Tryd.prog 59 #[.pointer (some ⟨g, 0, none⟩), .int .i64 (j : Int), .int .u64 (vals[j]?.getD 0), .int .u64 y] w fun r w' => r = .returned (.bool true) ∧ ∃ TV', St B2 g gc n w' TV' (vals.set j y) (addT T j) s ∧ Fr g gc TV TV' w w' := by
  have HT := Aside0.mk (touch_in j hj h hT)
  obtain ⟨x, hx⟩ : ∃ x, vals[j]?.getD 0 = x := ⟨_, rfl⟩
  rw [hx]
  have HX := Aside0.mk hx
  clear h hT hx
  go_enter Tryd.func59, Tryd.ntmps59
  go_wp2_with (first | (go_at_call 57; with_reducible refine HT.out.mono ?_; rintro e w1 ⟨rfl, TV', hS, hF⟩; have c0 := hS.slice; have c1 := hS.val hj; rw [HX.out] at c1; have f1 := hS.cells.free j; have HS := Aside0.mk (And.intro hS hF); clear hS hF))
  go_ret
  exact ⟨rfl, TV', HS.out.1.put j y, HS.out.2.set _ _ (Or.inr rfl)⟩
theorem swap_not {B2 g gc n : Nat} {w : World} {TV : Value} {vals T : List Int} {s : Int} (j : Nat) (z y : Int) (hj : j < n) (h : St B2 g gc n w TV vals T s) (hT : T.length ≤ 99) (hne : vals[j]?.getD 0 ≠ z) :
    Calls Tryd.prog 59 #[.pointer (some ⟨g, 0, none⟩), .int .i64 (j : Int), .int .u64 z, .int .u64 y] w fun r w' => r = .returned (.bool false) ∧ ∃ TV', St B2 g gc n w' TV' vals (addT T j) s ∧ Fr g gc TV TV' w w' := by
  have HT := Aside0.mk (touch_in j hj h hT)
  obtain ⟨x, hx⟩ : ∃ x, vals[j]?.getD 0 = x := ⟨_, rfl⟩
  rw [hx] at hne
  have hb : (x == z) = false := by rw [beq_eq_false_iff_ne]; exact hne
  have HX := Aside0.mk hx
  clear h hT hx hne
  go_enter Tryd.func59, Tryd.ntmps59
  go_wp2_with (first | (go_at_call 57; with_reducible refine HT.out.mono ?_; rintro e w1 ⟨rfl, TV', hS, hF⟩; have c0 := hS.slice; have c1 := hS.val hj; rw [HX.out] at c1; have HS := Aside0.mk (And.intro hS hF); clear hS hF))
  go_ret
  exact ⟨rfl, TV', HS.out⟩
theorem len_at {B2 g gc n : Nat} {w : World} {TV : Value} {vals T : List Int} {s : Int} (h : St B2 g gc n w TV vals T s) :
    Calls Tryd.prog 61 #[.pointer (some ⟨g, 0, none⟩)] w fun r w' => r = .returned (.int .i64 (n : Int)) ∧ ∃ m, w' = w.drewN m := by
  have c0 := h.slice
  clear h
  go_enter Tryd.func61, Tryd.ntmps61
  go_wp2_with fail
  go_ret
  first | exact ⟨rfl, _, rfl⟩ | exact ⟨rfl, 0, rfl⟩
theorem look_in {B2 g gc n : Nat} {w : World} {TV : Value} {vals T : List Int} {s : Int} (j : Nat) (hj : j < n) (h : St B2 g gc n w TV vals T s) :
    Calls Tryd.prog 36 #[.pointer (some ⟨g, 0, none⟩), .int .i64 (j : Int)] w fun r w' => r = .returned (.int .u64 (vals[j]?.getD 0)) ∧ ∃ m, w' = w.drewN m := by
  have HL := Aside0.mk (len_at h)
  have c0 := h.slice
  have c1 := h.val hj
  have d1 : decide ((j : Int) < 0) = false := decide_eq_false (by omega)
  have d2 : decide ((n : Int) ≤ (j : Int)) = false := decide_eq_false (by omega)
  clear h
  go_enter Tryd.func36, Tryd.ntmps36
  go_wp2_with (first | (go_at_call 61; with_reducible refine HL.out.mono ?_; rintro e w1 ⟨rfl, n1, rfl⟩))
  go_ret
  first | exact ⟨rfl, _, rfl⟩ | exact ⟨rfl, 0, rfl⟩
theorem look_out {B2 g gc n : Nat} {w : World} {TV : Value} {vals T : List Int} {s : Int} (at_ : Int) (h : St B2 g gc n w TV vals T s) (ho : at_ < 0 ∨ (n : Int) ≤ at_) :
    Calls Tryd.prog 36 #[.pointer (some ⟨g, 0, none⟩), .int .i64 at_] w fun r w' => r = .returned (.int .u64 0) ∧ ∃ m, w' = w.drewN m := by
  have HL := Aside0.mk (len_at h)
  by_cases h0 : at_ < 0
  · have d1 : decide (at_ < 0) = true := decide_eq_true h0
    clear h h0 ho
    go_enter Tryd.func36, Tryd.ntmps36
    go_wp2_with fail
    go_ret
    first | exact ⟨rfl, _, rfl⟩ | exact ⟨rfl, 0, rfl⟩
  · have d1 : decide (at_ < 0) = false := decide_eq_false h0
    have d2 : decide ((n : Int) ≤ at_) = true := decide_eq_true (by omega)
    clear h h0 ho
    go_enter Tryd.func36, Tryd.ntmps36
    go_wp2_with (first | (go_at_call 61; with_reducible refine HL.out.mono ?_; rintro e w1 ⟨rfl, n1, rfl⟩))
    go_ret
    first | exact ⟨rfl, _, rfl⟩ | exact ⟨rfl, 0, rfl⟩
theorem new_st (n : Nat) (w : World) (hn : 1 ≤ n ∧ n ≤ 16) :
    Calls Tryd.prog 30 #[.int .i64 (n : Int)] w fun r w' => ∃ g gc, r = .returned (.pointer (some ⟨g, 0, none⟩)) ∧ St w'.heap.size g gc n w' (.slice none 0 0) (List.replicate n 0) [] 0 ∧ (w.heap.size ≤ g ∧ w.heap.size ≤ gc) ∧ Below w.heap.size w w' := by
  have d1 : decide ((n : Int) < 1) = false := decide_eq_false (by omega)
  have d2 : decide ((16384 : Int) < (n : Int)) = false := decide_eq_false (by omega)
  have M1 : ∀ W : World, (Instr.makeSlice 88 (.int .i64 (n : Int)) (.int .i64 (n : Int))).run Tryd.prog W = .ok (.slice (some ⟨W.heap.size, 0, none⟩) n n) (W.alloc (.cells (arr .u64 (List.replicate n 0)) 26)) := fun W => by
    have := print_make_of (P := Tryd.prog) 88 26 (.int .u64 0) 8 Tryd.underlying88 info26 rfl (by decide) n (by omega) W
    rwa [arr_made] at this
  have HN := Aside0.mk hn
  clear hn
  go_enter Tryd.func30, Tryd.ntmps30
  go_wp2_with fail
  go_ret
  refine ⟨w.heap.size + 1, w.heap.size, rfl, ⟨heap_new' _ (by simp), own_nil _ _ _ _, heap_old (heap_new _ _), by simp, by omega, by simp; omega, HN.out, by simp, by omega⟩, by omega, ?_⟩
  exact ((Below.refl _ _).alloc (Nat.le_refl _) _).alloc (by simp) _
end Go.Proofs.YthonkcldddfpnaaDoor.Arena
