/- A frame that mostly may be: the contract of Near. -/
import Derived.Test.YthonkcldddfpnaaDoorPFrameGetsx2
import Derived.Test.YthonkcldddfpnaaDoorAid
import Derived.Test.YthonkcldddfpnaaDoorVals
import Derived.WalkKit
import Derived.BigQuiet
import Derived.BigRegion
import Derived.RegionTactic
import Derived.KernelRfl
import Derived.Deep.RegionWith
import Derived.Deep.CutRange
import Derived.Deep.CutBlock
namespace Go.Proofs.YthonkcldddfpnaaDoor.Near
open Go.RowKit Go.Proofs.YthonkcldddfpnaaDoor.PFrameGets Go.Proofs.YthonkcldddfpnaaDoorW.PrintWords Go.Proofs.YthonkcldddfpnaaDoorW.PrintLast Go.Proofs.YthonkcldddfpnaaDoorW.PrintMore Go.Proofs.YthonkcldddfpnaaDoor.Aid Go.Proofs.YthonkcldddfpnaaDoor.Quiet Go.Proofs.YthonkcldddfpnaaDoor.State Go.Proofs.YthonkcldddfpnaaDoor.Vals
set_option linter.unusedVariables false
attribute [local go_sem] max2_int min2_int max_two min_two

set_option maxHeartbeats 8000000 in
set_option maxRecDepth 100000 in
theorem near_core (K C V S G ca T : Int) (b d : Bool) (Q u odd : Int) (w : World) (r n k1 c1 v1 s1 g1 t1 q1 : Nat) (K2 C2 V2 S2 G2 T2 Q2 : Int) (hr : Go.bits .and .i64 odd 31 = (r : Int)) (hn : Go.bits .and .i64 K 255 = (n : Int)) (hk : (n : Int).tmod 10 = (k1 : Int)) (hkb : k1 < 10)
    (hc : Go.bits .and .i64 C 3 = (c1 : Int)) (hv : Go.bits .and .i64 V 3 = (v1 : Int)) (hs : Go.bits .and .i64 S 15 = (s1 : Int)) (hg : Go.bits .and .i64 G 16777215 = (g1 : Int)) (ht : Go.bits .and .i64 T 15 = (t1 : Int)) (hq : Go.bits .and .i64 Q 65535 = (q1 : Int))
    (E0 : K2 = (if r = 1 then K else (k1 : Int) + 1) ∧ C2 = (if r = 2 then C else (c1 : Int)) ∧ V2 = (if r = 6 then V else (v1 : Int)) ∧ S2 = (if r = 3 then S else (s1 : Int)) ∧ G2 = (if r = 4 then G else (g1 : Int)) ∧ T2 = (if r = 6 then T else (t1 : Int)) ∧ Q2 = (if r = 5 then Q else (q1 : Int))) :
    Calls Tryd.prog 13 #[.agg #[.int .i64 K, .int .i64 C, .int .i64 V, .int .i64 S, .int .i64 G, .int .u32 ca, .int .i64 T, .bool b, .bool d, .int .i64 Q, .int .u32 u], .int .i64 odd] w fun e w' => e = .returned (.agg #[.int .i64 K2, .int .i64 C2, .int .i64 V2, .int .i64 S2, .int .i64 G2, .int .u32 ca, .int .i64 T2, .bool b, .bool d, .int .i64 Q2, .int .u32 u]) ∧ Below w.heap.size w w' := by
  have hu24 := Tryd.underlying24
  have E := Aside0.mk E0
  clear E0
  obtain ⟨g0, hg0⟩ : ∃ g0, w.heap.size = g0 := ⟨_, rfl⟩
  have HG := Aside0.mk hg0
  clear hg0
  go_enter Tryd.func13, Tryd.ntmps13
  go_wp2_with fail
  go_region
  go_wp2_with fail
  go_region
  clear hn hk hkb hc hv hs hg ht hq
  go_upto_block 0 with fail
  go_cut [] from 38 (fun wx => HoldsV 24 wx (w.heap.size + 1) [.int .i64 K2, .int .i64 C2, .int .i64 V2, .int .i64 S2, .int .i64 G2, .int .u32 ca, .int .i64 T2, .bool b, .bool d, .int .i64 Q2, .int .u32 u] ∧ Below w.heap.size w wx)
  case first =>
    have hcs : r = 1 ∨ r = 2 ∨ r = 3 ∨ r = 4 ∨ r = 5 ∨ r = 6 ∨ (r ≠ 1 ∧ r ≠ 2 ∧ r ≠ 3 ∧ r ≠ 4 ∧ r ≠ 5 ∧ r ≠ 6) := by omega
    rcases hcs with h1 | h2 | h3 | h4 | h5 | h6 | ⟨h1, h2, h3, h4, h5, h6⟩
    · subst h1
      obtain rfl : K2 = K := by
        rw [E.out.1]
        exact if_pos rfl
      obtain rfl : C2 = (c1 : Int) := by
        rw [E.out.2.1]
        exact if_neg (by omega)
      obtain rfl : V2 = (v1 : Int) := by
        rw [E.out.2.2.1]
        exact if_neg (by omega)
      obtain rfl : S2 = (s1 : Int) := by
        rw [E.out.2.2.2.1]
        exact if_neg (by omega)
      obtain rfl : G2 = (g1 : Int) := by
        rw [E.out.2.2.2.2.1]
        exact if_neg (by omega)
      obtain rfl : T2 = (t1 : Int) := by
        rw [E.out.2.2.2.2.2.1]
        exact if_neg (by omega)
      obtain rfl : Q2 = (q1 : Int) := by
        rw [E.out.2.2.2.2.2.2]
        exact if_neg (by omega)
      clear E
      go_wp2_with fail
      go_meet
      exact ⟨heap_new' _ (by simp [HG.out]), by repeat (first | with_reducible exact Below.refl _ _ | with_reducible apply below_drewN | with_reducible apply Below.drew | (refine Below.alloc ?_ (by first | exact Nat.le_refl _ | simp) _))⟩
    · subst h2
      obtain rfl : K2 = (k1 : Int) + 1 := by
        rw [E.out.1]
        exact if_neg (by omega)
      obtain rfl : C2 = C := by
        rw [E.out.2.1]
        exact if_pos rfl
      obtain rfl : V2 = (v1 : Int) := by
        rw [E.out.2.2.1]
        exact if_neg (by omega)
      obtain rfl : S2 = (s1 : Int) := by
        rw [E.out.2.2.2.1]
        exact if_neg (by omega)
      obtain rfl : G2 = (g1 : Int) := by
        rw [E.out.2.2.2.2.1]
        exact if_neg (by omega)
      obtain rfl : T2 = (t1 : Int) := by
        rw [E.out.2.2.2.2.2.1]
        exact if_neg (by omega)
      obtain rfl : Q2 = (q1 : Int) := by
        rw [E.out.2.2.2.2.2.2]
        exact if_neg (by omega)
      clear E
      go_wp2_with fail
      go_meet
      exact ⟨heap_new' _ (by simp [HG.out]), by repeat (first | with_reducible exact Below.refl _ _ | with_reducible apply below_drewN | with_reducible apply Below.drew | (refine Below.alloc ?_ (by first | exact Nat.le_refl _ | simp) _))⟩
    · subst h3
      obtain rfl : K2 = (k1 : Int) + 1 := by
        rw [E.out.1]
        exact if_neg (by omega)
      obtain rfl : C2 = (c1 : Int) := by
        rw [E.out.2.1]
        exact if_neg (by omega)
      obtain rfl : V2 = (v1 : Int) := by
        rw [E.out.2.2.1]
        exact if_neg (by omega)
      obtain rfl : S2 = S := by
        rw [E.out.2.2.2.1]
        exact if_pos rfl
      obtain rfl : G2 = (g1 : Int) := by
        rw [E.out.2.2.2.2.1]
        exact if_neg (by omega)
      obtain rfl : T2 = (t1 : Int) := by
        rw [E.out.2.2.2.2.2.1]
        exact if_neg (by omega)
      obtain rfl : Q2 = (q1 : Int) := by
        rw [E.out.2.2.2.2.2.2]
        exact if_neg (by omega)
      clear E
      go_wp2_with fail
      go_meet
      exact ⟨heap_new' _ (by simp [HG.out]), by repeat (first | with_reducible exact Below.refl _ _ | with_reducible apply below_drewN | with_reducible apply Below.drew | (refine Below.alloc ?_ (by first | exact Nat.le_refl _ | simp) _))⟩
    · subst h4
      obtain rfl : K2 = (k1 : Int) + 1 := by
        rw [E.out.1]
        exact if_neg (by omega)
      obtain rfl : C2 = (c1 : Int) := by
        rw [E.out.2.1]
        exact if_neg (by omega)
      obtain rfl : V2 = (v1 : Int) := by
        rw [E.out.2.2.1]
        exact if_neg (by omega)
      obtain rfl : S2 = (s1 : Int) := by
        rw [E.out.2.2.2.1]
        exact if_neg (by omega)
      obtain rfl : G2 = G := by
        rw [E.out.2.2.2.2.1]
        exact if_pos rfl
      obtain rfl : T2 = (t1 : Int) := by
        rw [E.out.2.2.2.2.2.1]
        exact if_neg (by omega)
      obtain rfl : Q2 = (q1 : Int) := by
        rw [E.out.2.2.2.2.2.2]
        exact if_neg (by omega)
      clear E
      go_wp2_with fail
      go_meet
      exact ⟨heap_new' _ (by simp [HG.out]), by repeat (first | with_reducible exact Below.refl _ _ | with_reducible apply below_drewN | with_reducible apply Below.drew | (refine Below.alloc ?_ (by first | exact Nat.le_refl _ | simp) _))⟩
    · subst h5
      obtain rfl : K2 = (k1 : Int) + 1 := by
        rw [E.out.1]
        exact if_neg (by omega)
      obtain rfl : C2 = (c1 : Int) := by
        rw [E.out.2.1]
        exact if_neg (by omega)
      obtain rfl : V2 = (v1 : Int) := by
        rw [E.out.2.2.1]
        exact if_neg (by omega)
      obtain rfl : S2 = (s1 : Int) := by
        rw [E.out.2.2.2.1]
        exact if_neg (by omega)
      obtain rfl : G2 = (g1 : Int) := by
        rw [E.out.2.2.2.2.1]
        exact if_neg (by omega)
      obtain rfl : T2 = (t1 : Int) := by
        rw [E.out.2.2.2.2.2.1]
        exact if_neg (by omega)
      obtain rfl : Q2 = Q := by
        rw [E.out.2.2.2.2.2.2]
        exact if_pos rfl
      clear E
      go_wp2_with fail
      go_meet
      exact ⟨heap_new' _ (by simp [HG.out]), by repeat (first | with_reducible exact Below.refl _ _ | with_reducible apply below_drewN | with_reducible apply Below.drew | (refine Below.alloc ?_ (by first | exact Nat.le_refl _ | simp) _))⟩
    · subst h6
      obtain rfl : K2 = (k1 : Int) + 1 := by
        rw [E.out.1]
        exact if_neg (by omega)
      obtain rfl : C2 = (c1 : Int) := by
        rw [E.out.2.1]
        exact if_neg (by omega)
      obtain rfl : V2 = V := by
        rw [E.out.2.2.1]
        exact if_pos rfl
      obtain rfl : S2 = (s1 : Int) := by
        rw [E.out.2.2.2.1]
        exact if_neg (by omega)
      obtain rfl : G2 = (g1 : Int) := by
        rw [E.out.2.2.2.2.1]
        exact if_neg (by omega)
      obtain rfl : T2 = T := by
        rw [E.out.2.2.2.2.2.1]
        exact if_pos rfl
      obtain rfl : Q2 = (q1 : Int) := by
        rw [E.out.2.2.2.2.2.2]
        exact if_neg (by omega)
      clear E
      go_wp2_with fail
      go_region
      go_wp2_with fail
      go_meet
      exact ⟨heap_new' _ (by simp [HG.out]), by repeat (first | with_reducible exact Below.refl _ _ | with_reducible apply below_drewN | with_reducible apply Below.drew | (refine Below.alloc ?_ (by first | exact Nat.le_refl _ | simp) _))⟩
    · 
      have d1 : ((r : Int) == 1) = false := by rw [beq_eq_false_iff_ne]; omega
      have d2 : ((r : Int) == 2) = false := by rw [beq_eq_false_iff_ne]; omega
      have d3 : ((r : Int) == 3) = false := by rw [beq_eq_false_iff_ne]; omega
      have d4 : ((r : Int) == 4) = false := by rw [beq_eq_false_iff_ne]; omega
      have d5 : ((r : Int) == 5) = false := by rw [beq_eq_false_iff_ne]; omega
      have d6 : ((r : Int) == 6) = false := by rw [beq_eq_false_iff_ne]; omega
      obtain rfl : K2 = (k1 : Int) + 1 := by
        rw [E.out.1]
        exact if_neg (by omega)
      obtain rfl : C2 = (c1 : Int) := by
        rw [E.out.2.1]
        exact if_neg (by omega)
      obtain rfl : V2 = (v1 : Int) := by
        rw [E.out.2.2.1]
        exact if_neg (by omega)
      obtain rfl : S2 = (s1 : Int) := by
        rw [E.out.2.2.2.1]
        exact if_neg (by omega)
      obtain rfl : G2 = (g1 : Int) := by
        rw [E.out.2.2.2.2.1]
        exact if_neg (by omega)
      obtain rfl : T2 = (t1 : Int) := by
        rw [E.out.2.2.2.2.2.1]
        exact if_neg (by omega)
      obtain rfl : Q2 = (q1 : Int) := by
        rw [E.out.2.2.2.2.2.2]
        exact if_neg (by omega)
      clear E
      go_wp2_with fail
      go_meet
      exact ⟨heap_new' _ (by simp [HG.out]), by repeat (first | with_reducible exact Below.refl _ _ | with_reducible apply below_drewN | with_reducible apply Below.drew | (refine Below.alloc ?_ (by first | exact Nat.le_refl _ | simp) _))⟩
  case rest =>
    obtain ⟨hF, hB⟩ := hcut
    rename_i wc
    obtain ⟨g1', hg1'⟩ : ∃ g1', w.heap.size + 1 = g1' := ⟨_, rfl⟩
    rw [hg1'] at hF ⊢
    have HF := Aside0.mk hF
    have HB := Aside0.mk hB
    have HGE := Aside0.mk (show w.heap.size ≤ g1' by omega)
    have f0 := hF.cell 0
    have f1 := hF.cell 1
    have f2 := hF.cell 2
    have f3 := hF.cell 3
    have f4 := hF.cell 4
    have f5 := hF.cell 5
    have f6 := hF.cell 6
    have f7 := hF.cell 7
    have f8 := hF.cell 8
    have f9 := hF.cell 9
    have f10 := hF.cell 10
    simp only [List.getElem?_cons_zero, List.getElem?_cons_succ] at f0 f1 f2 f3 f4 f5 f6 f7 f8 f9 f10
    have z0 := hF.free 0
    have z1 := hF.free 1
    have z2 := hF.free 2
    have z3 := hF.free 3
    have z4 := hF.free 4
    have z5 := hF.free 5
    have z6 := hF.free 6
    have z7 := hF.free 7
    have z8 := hF.free 8
    have z9 := hF.free 9
    have z10 := hF.free 10
    clear hF hB hg1' E hr
    go_wp2_with fail
    refine bodyPost_ret (results_cell_row rfl _ _ g1' 24 #[.int .i64 K2, .int .i64 C2, .int .i64 V2, .int .i64 S2, .int .i64 G2, .int .u32 ca, .int .i64 T2, .bool b, .bool d, .int .i64 Q2, .int .u32 u] (0, 0) _ rfl (((((((((((HF.out.again 0 (.int .i64 K2) rfl).again 1 (.int .i64 C2) rfl).again 2 (.int .i64 V2) rfl).again 3 (.int .i64 S2) rfl).again 4 (.int .i64 G2) rfl).again 5 (.int .u32 ca) rfl).again 6 (.int .i64 T2) rfl).again 7 (.bool b) rfl).again 8 (.bool d) rfl).again 9 (.int .i64 Q2) rfl).again 10 (.int .u32 u) rfl) Tryd.underlying24 rfl (by kernel_rfl)) rfl ?_
    exact ⟨rfl, by repeat (first | with_reducible exact HB.out | (refine Below.setCell ?_ HGE.out _))⟩
end Go.Proofs.YthonkcldddfpnaaDoor.Near
