/- The free numbers: taking one; making them. -/
import Derived.Test.YthonkcldddfpnaaDoorFree
import Derived.Deep.CutRange
import Derived.Deep.LoopGhost
namespace Go.Proofs.YthonkcldddfpnaaDoor.Free
open Go.RowKit Go.Proofs.YthonkcldddfpnaaDoorW.PrintWords Go.Proofs.YthonkcldddfpnaaDoorW.PrintLast Go.Proofs.YthonkcldddfpnaaDoorW.PrintMore Go.Proofs.YthonkcldddfpnaaDoor.Aid Go.Proofs.YthonkcldddfpnaaDoor.Quiet Go.Proofs.YthonkcldddfpnaaDoor.Blk Go.Proofs.YthonkcldddfpnaaDoor.State Go.Proofs.YthonkcldddfpnaaDoor.Vals
set_option linter.unusedVariables false
attribute [local go_sem] max2_int min2_int max_two min_two

theorem take_nil (w : World) : Calls Tryd.prog 64 #[.pointer none] w fun r w' => r = .returned (.tuple #[.int .i64 0, .bool false]) ∧ ∃ m, w' = w.drewN m := by
  go_enter Tryd.func64, Tryd.ntmps64
  go_wp2_with fail
  refine (len_nil _).mono ?_
  rintro e w1 ⟨rfl, n1, rfl⟩
  go_wp2_with fail
  go_ret2
  first | exact ⟨rfl, _, rfl⟩ | exact ⟨rfl, 0, rfl⟩
theorem take_none (g k gl fr gh : Nat) (w : World) (h : HoldsV 108 w g (boxv k gl fr 0 gh)) : Calls Tryd.prog 64 #[.pointer (some ⟨g, 0, none⟩)] w fun r w' => r = .returned (.tuple #[.int .i64 0, .bool false]) ∧ ∃ m, w' = w.drewN m := by
  have H := Aside0.mk h
  clear h
  go_enter Tryd.func64, Tryd.ntmps64
  go_wp2_with fail
  refine (len_some g k gl fr 0 gh _ H.out).mono ?_
  rintro e w1 ⟨rfl, n1, rfl⟩
  go_wp2_with fail
  go_ret2
  first | exact ⟨rfl, _, rfl⟩ | exact ⟨rfl, 0, rfl⟩
set_option maxHeartbeats 2000000 in
theorem take_some (g k gl fr n gh p : Nat) (x : Nat) (w : World) (h : HoldsV 108 w g (boxv k gl fr n gh)) (hn : 0 < n) (hx : x < k) (hl : w.cell? ⟨gl, fr, none⟩ = some (.int .i64 (x : Int))) (hfr : fr < k) (b : Bool) (hb : w.cell? ⟨gh, x, none⟩ = some (.bool b))
    (hfh : w.frozen? ⟨gh, x, none⟩ = false) (ne : g ≠ gl ∧ g ≠ gh ∧ gl ≠ gh) (hp : ((fr : Int) + 1).tmod (k : Int) = (p : Int)) (hb1 : fr ≤ 1024 ∧ n ≤ 1024 ∧ k ≤ 1024) :
    Calls Tryd.prog 64 #[.pointer (some ⟨g, 0, none⟩)] w fun r w' => r = .returned (.tuple #[.int .i64 (x : Int), .bool true]) ∧
      SameMem (((w.setCell ⟨g, 2, none⟩ (.int .i64 (p : Int))).setCell ⟨g, 3, none⟩ (.int .i64 ((n : Int) - 1))).setCell ⟨gh, x, none⟩ (.bool false)) w' := by
  have H := Aside0.mk h
  have h0 : w.cell? ⟨g, 0, none⟩ = some (.int .i64 (k : Int)) := h.cell 0
  have h1 : w.cell? ⟨g, 1, none⟩ = some (.slice (some ⟨gl, 0, none⟩) k k) := h.cell 1
  have h2 : w.cell? ⟨g, 2, none⟩ = some (.int .i64 (fr : Int)) := h.cell 2
  have h3 : w.cell? ⟨g, 3, none⟩ = some (.int .i64 (n : Int)) := h.cell 3
  have h4 : w.cell? ⟨g, 4, none⟩ = some (.slice (some ⟨gh, 0, none⟩) k k) := h.cell 4
  have f2 := h.free 2
  have f3 := h.free 3
  have d1 : ((n : Int) == 0) = false := by rw [beq_eq_false_iff_ne]; omega
  have d3 : ((k : Int) == 0) = false := by rw [beq_eq_false_iff_ne]; omega
  obtain ⟨ne1, ne2, ne3⟩ := ne
  have ne1' := Ne.symm ne1
  have ne2' := Ne.symm ne2
  clear h
  go_enter Tryd.func64, Tryd.ntmps64
  go_wp2_with fail
  refine (len_some g k gl fr n gh _ H.out).mono ?_
  rintro e w1 ⟨rfl, n1, rfl⟩
  go_wp2_with fail
  go_quiet (fail)
  go_wp2_with fail
  go_region
  all_goals go_wp2
  all_goals go_ret2
  all_goals exact ⟨rfl, rfl, rfl, rfl, rfl⟩

theorem info3 : (Tryd.prog.info? 3).map (fun i => (i.zero, i.size, i.bytes)) = some (some (.int .i64 0), 1, 8) := by kernel_rfl
theorem info4 : (Tryd.prog.info? 4).map (fun i => (i.zero, i.size, i.bytes)) = some (some (.bool false), 1, 1) := by kernel_rfl
theorem made_ints (m : Nat) : madeCells #[.int .i64 0] m = (ints (List.replicate m 0)).toArray := by
  apply Array.ext
  · simp [size_madeCells, ints]
  · intro i h1 h2
    simp [madeCells, ints, Nat.mod_one]
theorem made_bools (m : Nat) : madeCells #[.bool false] m = (bools (List.replicate m false)).toArray := by
  apply Array.ext
  · simp [size_madeCells, bools]
  · intro i h1 h2
    simp [madeCells, bools, Nat.mod_one]
def fillL (k j : Nat) : List Int := (List.range k).map fun t => if t < j then (t : Int) else 0
def fillH (k j : Nat) : List Bool := (List.range k).map fun t => decide (t < j)
theorem fillL_zero (k : Nat) : fillL k 0 = List.replicate k 0 := by
  apply List.ext_getElem <;> simp [fillL]
theorem fillH_zero (k : Nat) : fillH k 0 = List.replicate k false := by
  apply List.ext_getElem <;> simp [fillH]
theorem fillL_all (k : Nat) : fillL k k = (List.range k).map Int.ofNat := by
  apply List.ext_getElem
  · simp [fillL]
  · intro i h1 h2
    simp [fillL] at h1 ⊢
    omega
theorem fillH_all (k : Nat) : fillH k k = List.replicate k true := by
  apply List.ext_getElem
  · simp [fillH]
  · intro i h1 h2
    simp [fillH] at h1 ⊢
    omega
theorem fillL_set {k j : Nat} (h : j < k) : (ints (fillL k j)).set j (.int .i64 (j : Int)) = ints (fillL k (j + 1)) := by
  apply List.ext_getElem
  · simp [ints, fillL]
  · intro i h1 h2
    simp only [ints, fillL, List.getElem_set, List.getElem_map, List.getElem_range]
    by_cases hij : j = i
    · subst hij; simp
    · rw [if_neg hij]; congr 1; split <;> split <;> omega
theorem fillH_set {k j : Nat} (h : j < k) : (bools (fillH k j)).set j (.bool true) = bools (fillH k (j + 1)) := by
  apply List.ext_getElem
  · simp [bools, fillH]
  · intro i h1 h2
    simp only [bools, fillH, List.getElem_set, List.getElem_map, List.getElem_range]
    by_cases hij : j = i
    · subst hij; simp
    · rw [if_neg hij]; congr 1; simp; omega
theorem three (w : World) (o1 o2 o3 : Obj) : (((w.alloc o1).alloc o2).alloc o3).heap[w.heap.size]? = some o1 ∧ (((w.alloc o1).alloc o2).alloc o3).heap[w.heap.size + 1]? = some o2 ∧ (((w.alloc o1).alloc o2).alloc o3).heap[w.heap.size + 2]? = some o3 :=
  ⟨heap_old (heap_old (heap_new w o1)), heap_old (heap_new' o2 (by simp)), heap_new' o3 (by simp)⟩
set_option maxHeartbeats 2000000 in
theorem new_calls (x : Int) (k : Nat) (w : World) (hk : mn (mx x 0) 1024 = (k : Int)) :
    Calls Tryd.prog 62 #[.int .i64 x] w fun r w' => r = .returned (.pointer (some ⟨w.heap.size + 2, 0, none⟩)) ∧ Below w.heap.size w w' ∧
      ∃ gl gh, (gl = w.heap.size ∨ gl = w.heap.size + 1) ∧ (gh = w.heap.size ∨ gh = w.heap.size + 1) ∧ gl ≠ gh ∧ HoldsV 108 w' (w.heap.size + 2) (boxv k gl 0 k gh) ∧
        HoldsV 3 w' gl (ints ((List.range k).map Int.ofNat)) ∧ HoldsV 4 w' gh (bools (List.replicate k true)) := by
  have hk1 : k ≤ 1024 := by have : mn (mx x 0) 1024 ≤ 1024 := by { unfold mn; split <;> omega }
                            omega
  obtain ⟨x', hx⟩ : ∃ x', (if x < 0 then 0 else x) = x' := ⟨_, rfl⟩
  have ha' : (if 1024 < x' then 1024 else x') = (k : Int) := by rw [← hk, ← hx]; rfl
  have M1 : ∀ W : World, (Instr.makeSlice 71 (.int .i64 (k : Int)) (.int .i64 (k : Int))).run Tryd.prog W = .ok (.slice (some ⟨W.heap.size, 0, none⟩) k k) (W.alloc (.cells (ints (List.replicate k 0)).toArray 3)) := fun W => by
    have := print_make_of (P := Tryd.prog) 71 3 (.int .i64 0) 8 Tryd.underlying71 info3 rfl (by decide) k (by omega) W
    rwa [made_ints] at this
  have M2 : ∀ W : World, (Instr.makeSlice 50 (.int .i64 (k : Int)) (.int .i64 (k : Int))).run Tryd.prog W = .ok (.slice (some ⟨W.heap.size, 0, none⟩) k k) (W.alloc (.cells (bools (List.replicate k false)).toArray 4)) := fun W => by
    have := print_make_of (P := Tryd.prog) 50 4 (.bool false) 1 Tryd.underlying50 info4 rfl (by decide) k (by omega) W
    rwa [made_bools] at this
  clear hk
  go_enter Tryd.func62, Tryd.ntmps62
  go_upto_region 2 with fail
  go_cut [3] from 5 to 15 (fun s wx => s = .pointer (some ⟨w.heap.size + 2, 0, none⟩) ∧ Below w.heap.size w wx ∧ ∃ gl gh, (gl = w.heap.size ∨ gl = w.heap.size + 1) ∧ (gh = w.heap.size ∨ gh = w.heap.size + 1) ∧ gl ≠ gh ∧
    HoldsV 108 wx (w.heap.size + 2) (boxv k gl 0 k gh) ∧ HoldsV 3 wx gl (ints (List.replicate k 0)) ∧ HoldsV 4 wx gh (bools (List.replicate k false)))
  case first =>
    go_region_with (fail)
    all_goals go_wp2_with fail
    all_goals go_meet
    · obtain ⟨e1, e2, e3⟩ := three w (.cells (ints (List.replicate k 0)).toArray 3) (.cells (bools (List.replicate k false)).toArray 4) (.cells (boxv k w.heap.size 0 k (w.heap.size + 1)).toArray 108)
      exact ⟨rfl, ((((Below.refl _ _).alloc (Nat.le_refl _) _).alloc (by simp) _).alloc (by simp; omega) _).drew, w.heap.size, w.heap.size + 1, Or.inl rfl, Or.inr rfl, by omega, e3, e1, e2⟩
    · obtain ⟨e1, e2, e3⟩ := three w (.cells (bools (List.replicate k false)).toArray 4) (.cells (ints (List.replicate k 0)).toArray 3) (.cells (boxv k (w.heap.size + 1) 0 k w.heap.size).toArray 108)
      exact ⟨rfl, ((((Below.refl _ _).alloc (Nat.le_refl _) _).alloc (by simp) _).alloc (by simp; omega) _).drew, w.heap.size + 1, w.heap.size, Or.inr rfl, Or.inl rfl, by omega, e3, e2, e1⟩
  case rest =>
    obtain ⟨rfl, hB, gl, gh, hl, hh, hne, hF, hL, hH⟩ := hcut
    rename_i wc
    have HB := Aside0.mk hB
    have HF := Aside0.mk hF
    have HL := Aside0.mk (show HoldsV 3 wc gl (ints (fillL k 0)) by rw [fillL_zero]; exact hL)
    have HH := Aside0.mk (show HoldsV 4 wc gh (bools (fillH k 0)) by rw [fillH_zero]; exact hH)
    clear hB hF hL hH M1 M2 ha' hx
    obtain ⟨F, hFe⟩ : ∃ F, w.heap.size + 2 = F := ⟨_, rfl⟩
    have n1 : F ≠ gl := by omega
    have n2 : F ≠ gh := by omega
    have n1' : gl ≠ F := by omega
    have n2' : gh ≠ F := by omega
    have n3' : gh ≠ gl := by omega
    have HN := Aside0.mk (And.intro hl hh)
    have HE := Aside0.mk hFe
    rw [hFe] at HF ⊢
    clear hl hh hFe
    go_wp2_with fail
    go_loopg [17] k (fun g i wx => ∃ j : Nat, g + j = k ∧ i = .int .i64 j ∧ Below w.heap.size w wx ∧ HoldsV 108 wx F (boxv k gl 0 k gh) ∧ HoldsV 3 wx gl (ints (fillL k j)) ∧ HoldsV 4 wx gh (bools (fillH k j)))
    case atStart => exact ⟨0, rfl, rfl, HB.out, HF.out, HL.out, HH.out⟩
    case round =>
      clear HB HF HL HH
      obtain ⟨j, hj, rfl, hB, hF, hL, hH⟩ := hrel
      have HJ := Aside0.mk hj
      by_cases hlt : j < k
      · have d1 : decide ((j : Int) < (k : Int)) = true := decide_eq_true (by omega)
        have c1 : wr.cell? ⟨F, 1, none⟩ = some (.slice (some ⟨gl, 0, none⟩) k k) := hF.cell 1
        have c4 : wr.cell? ⟨F, 4, none⟩ = some (.slice (some ⟨gh, 0, none⟩) k k) := hF.cell 4
        obtain ⟨v1, hv1⟩ : ∃ v, wr.cell? ⟨gl, j, none⟩ = some v := ⟨_, (hL.cell j).trans (List.getElem?_eq_getElem (by simp [ints, fillL]; omega))⟩
        obtain ⟨v2, hv2⟩ : ∃ v, wr.cell? ⟨gh, j, none⟩ = some v := ⟨_, (hH.cell j).trans (List.getElem?_eq_getElem (by simp [bools, fillH]; omega))⟩
        have f1 := hL.free j
        have f2 := hH.free j
        have HB := Aside0.mk hB
        have HF := Aside0.mk hF
        have HL := Aside0.mk hL
        have HH := Aside0.mk hH
        clear hB hF hL hH hj
        have fin : ∀ wz, SameMem ((wr.setCell ⟨gl, j, none⟩ (.int .i64 (j : Int))).setCell ⟨gh, j, none⟩ (.bool true)) wz → Below w.heap.size w wz ∧ HoldsV 108 wz F (boxv k gl 0 k gh) ∧ HoldsV 3 wz gl (ints (fillL k (j + 1))) ∧ HoldsV 4 wz gh (bools (fillH k (j + 1))) := fun wz hz => by
          have hg : gl ≥ w.heap.size ∧ gh ≥ w.heap.size := by have := HN.out; omega
          have oi : OnlyIn [gl, gh] wr wz := (((OnlyIn.refl _ _).set _ _ (by simp)).set _ _ (by simp)).alike hz
          refine ⟨oi.below HB.out (by simp; omega) HB.out.size, ((HF.out.other _ n1).other _ n2).same hz, ?_, ?_⟩
          · rw [← fillL_set hlt]; exact ((HL.out.set j _).other _ hne).same hz
          · rw [← fillH_set hlt]; exact ((HH.out.other _ n3').set j _).same hz
        have FIN := Aside0.mk fin
        clear fin
        go_wp2_with fail
        go_region
        all_goals go_wp2
        all_goals go_roundg (k - (j + 1))
        all_goals first
          | (have := HJ.out; omega)
          | (exact ⟨j + 1, by have := HJ.out; omega, by go_num, FIN.out _ ⟨rfl, rfl, rfl, rfl⟩⟩)
      · have d1 : decide ((j : Int) < (k : Int)) = false := decide_eq_false (by omega)
        obtain rfl : j = k := by omega
        have HB := Aside0.mk hB
        have HF := Aside0.mk hF
        have HL := Aside0.mk (show HoldsV 3 wr gl (ints ((List.range j).map Int.ofNat)) by rw [← fillL_all]; exact hL)
        have HH := Aside0.mk (show HoldsV 4 wr gh (bools (List.replicate j true)) by rw [← fillH_all]; exact hH)
        clear hB hF hL hH hj
        go_wp2_with fail
        go_ret
        refine ⟨by rw [HE.out]; rfl, HB.out, gl, gh, HN.out.1, HN.out.2, hne, ?_, HL.out, HH.out⟩
        rw [HE.out]; exact HF.out
end Go.Proofs.YthonkcldddfpnaaDoor.Free
