/- An arena: contracts of its functions, over its blocks in memory, where its first cell alone is touched; of no arena. -/
import Derived.Test.YtnnelmjlmjedhaaPArenaNonex1
import Derived.Test.YtnnelmjlmjedhaaAid
import Derived.Test.YtnnelmjlmjedhaaBlk
import Derived.Test.YtnnelmjlmjedhaaVals
import Derived.WalkKit
import Derived.BigQuiet
import Derived.BigRegion
import Derived.RegionTactic
import Derived.KernelRfl
import Derived.Deep.RegionWith
namespace Go.Proofs.Ytnnelmjlmjedhaa.Arena
open Go.RowKit Go.Proofs.Ytnnelmjlmjedhaa.PArenaNone Go.Proofs.YtnnelmjlmjedhaaW.PrintWords Go.Proofs.YtnnelmjlmjedhaaW.PrintLast Go.Proofs.YtnnelmjlmjedhaaW.PrintMore Go.Proofs.Ytnnelmjlmjedhaa.Aid Go.Proofs.Ytnnelmjlmjedhaa.Quiet Go.Proofs.Ytnnelmjlmjedhaa.Blk Go.Proofs.Ytnnelmjlmjedhaa.State Go.Proofs.Ytnnelmjlmjedhaa.Vals
set_option linter.unusedVariables false
attribute [local go_sem] max2_int min2_int max_two min_two

theorem touch_nil (x : Int) (w : World) : Calls Try.prog 53 #[.pointer none, .int .i64 x] w fun r w' => r = .returned (.bool false) ∧ ∃ m, w' = w.drewN m := by
  go_enter Try.func53, Try.ntmps53
  go_wp2_with fail
  go_ret
  first | exact ⟨rfl, _, rfl⟩ | exact ⟨rfl, 0, rfl⟩
theorem len_nil (w : World) : Calls Try.prog 23 #[.pointer none] w fun r w' => r = .returned (.int .i64 0) ∧ ∃ m, w' = w.drewN m := by
  go_enter Try.func23, Try.ntmps23
  go_wp2_with fail
  go_ret
  first | exact ⟨rfl, _, rfl⟩ | exact ⟨rfl, 0, rfl⟩
theorem stray_nil (w : World) : Calls Try.prog 22 #[.pointer none] w fun r w' => r = .returned (.int .i64 0) ∧ ∃ m, w' = w.drewN m := by
  go_enter Try.func22, Try.ntmps22
  go_wp2_with fail
  go_ret
  first | exact ⟨rfl, _, rfl⟩ | exact ⟨rfl, 0, rfl⟩
theorem read_nil (x : Int) (w : World) : Calls Try.prog 16 #[.pointer none, .int .i64 x] w fun r w' => r = .returned (.int .u64 0) ∧ ∃ m, w' = w.drewN m := by
  go_enter Try.func16, Try.ntmps16
  go_wp2_with (first | (go_at_call 53; with_reducible refine (touch_nil _ _).mono ?_; rintro e w1 ⟨rfl, n1, rfl⟩))
  go_ret
  first | exact ⟨rfl, _, rfl⟩ | exact ⟨rfl, 0, rfl⟩
theorem swap_nil (x y z : Int) (w : World) : Calls Try.prog 17 #[.pointer none, .int .i64 x, .int .u64 y, .int .u64 z] w fun r w' => r = .returned (.bool false) ∧ ∃ m, w' = w.drewN m := by
  go_enter Try.func17, Try.ntmps17
  go_wp2_with (first | (go_at_call 53; with_reducible refine (touch_nil _ _).mono ?_; rintro e w1 ⟨rfl, n1, rfl⟩))
  go_ret
  first | exact ⟨rfl, _, rfl⟩ | exact ⟨rfl, 0, rfl⟩

theorem touched_nil (w : World) : Calls Try.prog 21 #[.pointer none] w fun r w' => r = .returned (.slice none 0 0) ∧ ∃ m, w' = w.drewN m := by
  go_enter Try.func21, Try.ntmps21
  go_wp2_with fail
  go_ret
  first | exact ⟨rfl, _, rfl⟩ | exact ⟨rfl, 0, rfl⟩
theorem begin_nil (w : World) : Calls Try.prog 18 #[.pointer none] w fun r w' => r = .returned (.tuple #[]) ∧ ∃ m, w' = w.drewN m := by
  go_enter Try.func18, Try.ntmps18
  go_wp2_with fail
  go_end0
  first | exact ⟨rfl, _, rfl⟩ | exact ⟨rfl, 0, rfl⟩
theorem write_nil (x y : Int) (w : World) : Calls Try.prog 20 #[.pointer none, .int .i64 x, .int .u64 y] w fun r w' => r = .returned (.tuple #[]) ∧ ∃ m, w' = w.drewN m := by
  go_enter Try.func20, Try.ntmps20
  go_wp2_with (first | (go_at_call 53; with_reducible refine (touch_nil _ _).mono ?_; rintro e w1 ⟨rfl, n1, rfl⟩))
  go_end0
  first | exact ⟨rfl, _, rfl⟩ | exact ⟨rfl, 0, rfl⟩
theorem look_nil (x : Int) (w : World) : Calls Try.prog 19 #[.pointer none, .int .i64 x] w fun r w' => r = .returned (.int .u64 0) ∧ ∃ m, w' = w.drewN m := by
  by_cases h : x < 0
  · have d1 : decide (x < 0) = true := decide_eq_true h
    clear h
    go_enter Try.func19, Try.ntmps19
    go_wp2_with fail
    go_ret
    first | exact ⟨rfl, _, rfl⟩ | exact ⟨rfl, 0, rfl⟩
  · have d1 : decide (x < 0) = false := decide_eq_false h
    have d2 : decide (0 ≤ x) = true := decide_eq_true (by omega)
    clear h
    go_enter Try.func19, Try.ntmps19
    go_wp2_with (first | (go_at_call 23; with_reducible refine (len_nil _).mono ?_; rintro e w1 ⟨rfl, n1, rfl⟩))
    go_ret
    first | exact ⟨rfl, _, rfl⟩ | exact ⟨rfl, 0, rfl⟩

/-- What was touched. -/
def tl : Bool → List Int
  | true => [0]
  | false => []
/-- An arena of n cells in memory. -/
structure Ar (W : World) (B2 g gc n : Nat) (w : World) (vals : List Int) (t : Bool) : Prop where
  box : ∃ TV : Value, HoldsV 106 w g [.slice (some ⟨gc, 0, none⟩) n n, TV, .int .i64 0] ∧ w.ownsRow B2 3 1 TV (tl t).length (nums .i64 (tl t))
  cells : Holds .u64 27 w gc vals
  len : vals.length = n
  ne : g ≠ gc
  lt : g < B2 ∧ gc < B2
  ge : W.heap.size ≤ g ∧ W.heap.size ≤ gc
  pos : 1 ≤ n ∧ n ≤ 16384
  below : Below W.heap.size W w
  size : B2 ≤ w.heap.size
theorem own_below {w w' : World} {base : Nat} {e : TypeId} {v : Value} {n : Nat} {xs : List Value} (h : w.ownsRow base e 1 v n xs) (hb : Below w.heap.size w w') : w'.ownsRow base e 1 v n xs := by
  refine ⟨h.1, ?_⟩
  rcases h.2 with h | ⟨g, cap, cur, hv, hb1, hg, rest⟩
  · exact .inl h
  · exact .inr ⟨g, cap, cur, hv, hb1, (hb.block g (Quiet.blk_lt hg)).trans hg, rest⟩
theorem own_keep {w w' : World} {base : Nat} {e : TypeId} {v : Value} {n : Nat} {xs : List Value} (h : w.ownsRow base e 1 v n xs) (hk : ∀ k, base ≤ k → k < w.heap.size → w'.heap[k]? = w.heap[k]?) : w'.ownsRow base e 1 v n xs := by
  refine ⟨h.1, ?_⟩
  rcases h.2 with h | ⟨g, cap, cur, hv, hb1, hg, rest⟩
  · exact .inl h
  · exact .inr ⟨g, cap, cur, hv, hb1, (hk g hb1 (Quiet.blk_lt hg)).trans hg, rest⟩
theorem reads_C {w : World} {A : Option Addr} {xs : List Int} (h : ReadsInt w .i64 A xs.length xs) : Kd.C (Kd.int .i64) w A xs.length xs := by
  refine ⟨rfl, h.2.1, fun hn => ?_⟩
  obtain ⟨ad, hA, hc⟩ := h.2.2 hn
  refine ⟨ad, hA, fun j p hj => ⟨[.int .i64 p], rfl, rfl, fun i u hu => ?_⟩⟩
  obtain ⟨hj', hp⟩ := List.getElem?_eq_some_iff.1 hj
  have hi : i = 0 := by have := (List.getElem?_eq_some_iff.1 hu).1; simpa using this
  subst hi
  have e : u = .int .i64 p := by simpa using hu.symm
  subst e
  have := hc j hj'
  rw [List.getD_eq_getElem?_getD, hj] at this
  rw [show ad.add (j * (Kd.int .i64).sz + 0) = ad.add j by show Addr.add _ (j * 1 + 0) = _; simp]
  exact this
theorem Ar.next {W : World} {B2 g gc n : Nat} {w w' : World} {vals : List Int} {t : Bool} (h : Ar W B2 g gc n w vals t) (hb : Below w.heap.size w w') : Ar W B2 g gc n w' vals t := by
  obtain ⟨⟨TV, h1, h2⟩, h3, h4, h5, h6, h7, h8, h9, h10⟩ := h
  exact ⟨⟨TV, h1.below' hb, own_below h2 hb⟩, h3.below hb h3.lt, h4, h5, h6, h7, h8, h9.trans (hb.mono h9.size), Nat.le_trans h10 hb.size⟩
theorem Ar.drewN {W : World} {B2 g gc n : Nat} {w : World} {vals : List Int} {t : Bool} (h : Ar W B2 g gc n w vals t) (m : Nat) : Ar W B2 g gc n (w.drewN m) vals t := h.next (below_drewN (Below.refl _ _) m)
theorem info3 : (Try.prog.info? 3).map (fun i => (i.zero, i.size, i.bytes)) = some (some (.int .i64 0), 1, 8) := by kernel_rfl
theorem info27 : (Try.prog.info? 27).map (fun i => (i.zero, i.size, i.bytes)) = some (some (.int .u64 0), 1, 8) := by kernel_rfl
theorem new_some (n : Nat) (w : World) (hn : 1 ≤ n ∧ n ≤ 16384) :
    Calls Try.prog 15 #[.int .i64 (n : Int)] w fun r w' => ∃ g gc, r = .returned (.pointer (some ⟨g, 0, none⟩)) ∧ Ar w w'.heap.size g gc n w' (List.replicate n 0) false := by
  have d1 : decide ((n : Int) < 1) = false := decide_eq_false (by omega)
  have d2 : decide ((16384 : Int) < (n : Int)) = false := decide_eq_false (by omega)
  have M1 : ∀ W : World, (Instr.makeSlice 25 (.int .i64 (n : Int)) (.int .i64 (n : Int))).run Try.prog W = .ok (.slice (some ⟨W.heap.size, 0, none⟩) n n) (W.alloc (.cells (arr .u64 (List.replicate n 0)) 27)) := fun W => by
    have := print_make_of (P := Try.prog) 25 27 (.int .u64 0) 8 Try.underlying25 info27 rfl (by decide) n (by omega) W
    rwa [arr_made] at this
  have HN := Aside0.mk hn
  clear hn
  go_enter Try.func15, Try.ntmps15
  go_wp2_with fail
  go_ret
  refine ⟨w.heap.size + 1, w.heap.size, rfl, ⟨⟨.slice none 0 0, heap_new' _ (by simp), own_nil _ _ _ _⟩, heap_old (heap_new _ _), by simp, by omega, by simp; omega, by omega, HN.out, ?_, Nat.le_refl _⟩⟩
  exact ((Below.refl _ _).alloc (Nat.le_refl _) _).alloc (by simp) _
theorem new_none (x : Int) (w : World) (hx : ¬ (1 ≤ x ∧ x ≤ 16384)) : Calls Try.prog 15 #[.int .i64 x] w fun r w' => r = .returned (.pointer none) ∧ ∃ m, w' = w.drewN m := by
  by_cases h : x < 1
  · have d1 : decide (x < 1) = true := decide_eq_true h
    clear h hx
    go_enter Try.func15, Try.ntmps15
    go_wp2_with fail
    go_ret
    first | exact ⟨rfl, _, rfl⟩ | exact ⟨rfl, 0, rfl⟩
  · have d1 : decide (x < 1) = false := decide_eq_false h
    have d2 : decide (16384 < x) = true := decide_eq_true (by omega)
    clear h hx
    go_enter Try.func15, Try.ntmps15
    go_wp2_with fail
    go_ret
    first | exact ⟨rfl, _, rfl⟩ | exact ⟨rfl, 0, rfl⟩
theorem set_ne {w : World} {p : Addr} {v : Value} (k : Nat) (h : k ≠ p.block) : (w.setCell p v).heap[k]? = w.heap[k]? := Below.heap_setCell w p v k h
theorem setOther {kk : IntKind} {t : TypeId} {w : World} {g : Nat} {L : List Int} (h : Holds kk t w g L) {p : Addr} {v : Value} (hg : p.block ≠ g) : Holds kk t (w.setCell p v) g L := (set_ne g (Ne.symm hg)).trans h
/-- The first cell is touched. -/
theorem touch_at {W : World} {B2 g gc n : Nat} {w : World} {vals : List Int} {t : Bool} (h : Ar W B2 g gc n w vals t) :
    Calls Try.prog 53 #[.pointer (some ⟨g, 0, none⟩), .int .i64 0] w fun r w' => r = .returned (.bool true) ∧ Ar W B2 g gc n w' vals true := by
  obtain ⟨⟨TV, h1, h2⟩, h3, h4, h5, h6, h7, h8, h9, h10⟩ := h
  obtain ⟨A, c, hTV, hrd⟩ := own_reads h2
  have hcc : (tl t).length ≤ c := by
    rcases h2.2 with ⟨e, hn⟩ | ⟨g', cap, cur, e, _, _, hc, _⟩
    · omega
    · rw [hTV] at e
      injection e with e1 e2 e3
      omega
  subst hTV
  have HB1 := Aside0.mk h1
  have HO := Aside0.mk h2
  have HC := Aside0.mk h3
  have HL := Aside0.mk h4
  have HX := Aside0.mk (And.intro h5 (And.intro h6 (And.intro h7 (And.intro h8 (And.intro h9 h10)))))
  have c0 : w.cell? ⟨g, 0, none⟩ = some (.slice (some ⟨gc, 0, none⟩) n n) := h1.cell 0
  have c1 : w.cell? ⟨g, 1, none⟩ = some (.slice A (tl t).length c) := h1.cell 1
  have f1 := h1.free 1
  have d2 : ¬ n = 0 := by omega
  have hcont : ∀ w', Below w.heap.size w w' → Calls Try.prog 69 #[.slice A (tl t).length c, .int .i64 0] w' fun e w'' => e = .returned (.bool t) ∧ ∃ m, w'' = w'.drewN m := fun w' hb =>
    (slices_Contains_int_int.calls 5 A c (tl t) 0 t w' (reads_C (hrd.below hb)) hcc (by cases t <;> rfl)).mono fun _ _ ⟨he, hd⟩ => ⟨he, hd.out⟩
  have HCONT := Aside0.mk hcont
  clear h1 h2 h3 h4 h5 h6 h7 h8 h9 h10 hrd hcont hcc
  cases t
  · have c1' : w.cell? ⟨g, 1, none⟩ = some (.slice A 0 c) := c1
    have HO' := Aside0.mk (show w.ownsRow B2 3 1 (.slice A 0 c) ([] : List Int).length (nums .i64 []) from HO.out)
    have HC' := Aside0.mk (show Calls Try.prog 69 #[.slice A 0 c, .int .i64 0] w fun e w'' => e = .returned (.bool false) ∧ ∃ m, w'' = w.drewN m from HCONT.out w (Below.refl _ _))
    clear c1 HO HCONT
    go_enter Try.func53, Try.ntmps53
    go_wp2_with (first
      | (go_at_call 69; with_reducible refine HC'.out.mono ?_; rintro e w1 ⟨rfl, n1, rfl⟩)
      | ((with_reducible refine gate_builtin (b := .append) (xs := #[.tmp 36, .tmp 38]) rfl ?_); at_builtin; refine print_append_num (w0 := w) B2 rfl (.tmp 36) (.tmp 38) 26 3 .i64 8 rfl Try.underlying26 info3 (by decide) (.slice A 0 c) ([] : List Int) 0 rfl rfl HO'.out (below_drewN (Below.refl _ _) _) HX.out.2.2.2.2.2 (by simp) ?_; intro v1 w2 ho hb hg hat; clear hg hat; obtain ⟨A1, c3, hv1, hrd1⟩ := own_reads ho; subst hv1; clear hrd1; have HO2 := Aside0.mk ho; have HB2 := Aside0.mk hb; clear ho hb; have k0 : w2.cell? ⟨g, 0, none⟩ = some (.slice (some ⟨gc, 0, none⟩) n n) := (HB2.out.cell (p := ⟨g, 0, none⟩) HX.out.2.1.1).trans c0; have HG2 := Aside0.mk (HB1.out.below HB2.out HX.out.2.1.1); have k1 : w2.cell? ⟨g, 1, none⟩ = some (.slice A 0 c) := HG2.out.cell 1; have f2 := HG2.out.free 1))
    go_ret
    refine ⟨rfl, ⟨_, HG2.out.set 1 _, own_keep HO2.out (fun k hk _ => set_ne k (by have := HX.out.2.1.1; show k ≠ g; omega))⟩, setOther (HC.out.below HB2.out HX.out.2.1.2) HX.out.1, HL.out, HX.out.1, HX.out.2.1, HX.out.2.2.1, HX.out.2.2.2.1, ?_, ?_⟩
    · exact (HX.out.2.2.2.2.1.trans (HB2.out.mono (by have := HX.out.2.1; have := HX.out.2.2.1; omega))).setCell HX.out.2.2.1.1 _
    · have := HB2.out.size
      have := HX.out.2.2.2.2.2
      simp [World.setCell]
      omega
  · have c1' : w.cell? ⟨g, 1, none⟩ = some (.slice A 1 c) := c1
    have HC' := Aside0.mk (show Calls Try.prog 69 #[.slice A 1 c, .int .i64 0] w fun e w'' => e = .returned (.bool true) ∧ ∃ m, w'' = w.drewN m from HCONT.out w (Below.refl _ _))
    have HA := Aside0.mk (show Ar W B2 g gc n w vals true from ⟨⟨_, HB1.out, HO.out⟩, HC.out, HL.out, HX.out.1, HX.out.2.1, HX.out.2.2.1, HX.out.2.2.2.1, HX.out.2.2.2.2.1, HX.out.2.2.2.2.2⟩)
    clear c1 HO HCONT
    go_enter Try.func53, Try.ntmps53
    go_wp2_with (first | (go_at_call 69; with_reducible refine HC'.out.mono ?_; rintro e w1 ⟨rfl, n1, rfl⟩))
    go_ret
    exact ⟨rfl, HA.out.drewN _⟩
end Go.Proofs.Ytnnelmjlmjedhaa.Arena
