/- The free numbers: contracts of the functions of free, over three blocks in memory. -/
import Derived.Test.YthonkcldddfpnaaDoorPSettleStalex1
import Derived.Test.YthonkcldddfpnaaDoorAid
import Derived.Test.YthonkcldddfpnaaDoorBlk
import Derived.Test.YthonkcldddfpnaaDoorVals
import Derived.WalkKit
import Derived.BigQuiet
import Derived.BigRegion
import Derived.RegionTactic
import Derived.KernelRfl
import Derived.Deep.RegionWith
namespace Go.Proofs.YthonkcldddfpnaaDoor.Free
open Go.RowKit Go.Proofs.YthonkcldddfpnaaDoorW.PrintWords Go.Proofs.YthonkcldddfpnaaDoorW.PrintLast Go.Proofs.YthonkcldddfpnaaDoorW.PrintMore Go.Proofs.YthonkcldddfpnaaDoor.Aid Go.Proofs.YthonkcldddfpnaaDoor.Quiet Go.Proofs.YthonkcldddfpnaaDoor.Blk Go.Proofs.YthonkcldddfpnaaDoor.State Go.Proofs.YthonkcldddfpnaaDoor.Vals
set_option linter.unusedVariables false
attribute [local go_sem] max2_int min2_int max_two min_two

/-- The state's own five cells. -/
def boxv (k gl fr n gh : Nat) : List Value := [.int .i64 (k : Int), .slice (some ⟨gl, 0, none⟩) k k, .int .i64 (fr : Int), .int .i64 (n : Int), .slice (some ⟨gh, 0, none⟩) k k]
def ints (L : List Int) : List Value := L.map (.int .i64)
def bools (H : List Bool) : List Value := H.map .bool

theorem len_nil (w : World) : Calls Tryd.prog 65 #[.pointer none] w fun r w' => r = .returned (.int .i64 0) ∧ ∃ m, w' = w.drewN m := by
  go_enter Tryd.func65, Tryd.ntmps65
  go_wp2_with fail
  go_ret
  first | exact ⟨rfl, _, rfl⟩ | exact ⟨rfl, 0, rfl⟩
theorem len_some (g k gl fr n gh : Nat) (w : World) (h : HoldsV 108 w g (boxv k gl fr n gh)) : Calls Tryd.prog 65 #[.pointer (some ⟨g, 0, none⟩)] w fun r w' => r = .returned (.int .i64 (n : Int)) ∧ ∃ m, w' = w.drewN m := by
  have h3 : w.cell? ⟨g, 3, none⟩ = some (.int .i64 (n : Int)) := h.cell 3
  clear h
  go_enter Tryd.func65, Tryd.ntmps65
  go_wp2_with fail
  go_ret
  first | exact ⟨rfl, _, rfl⟩ | exact ⟨rfl, 0, rfl⟩
theorem give_nil (x : Int) (w : World) : Calls Tryd.prog 63 #[.pointer none, .int .i64 x] w fun r w' => r = .returned (.bool false) ∧ ∃ m, w' = w.drewN m := by
  go_enter Tryd.func63, Tryd.ntmps63
  go_wp2_with fail
  go_ret
  first | exact ⟨rfl, _, rfl⟩ | exact ⟨rfl, 0, rfl⟩
theorem give_low (g : Nat) (x : Int) (w : World) (hx : x < 0) : Calls Tryd.prog 63 #[.pointer (some ⟨g, 0, none⟩), .int .i64 x] w fun r w' => r = .returned (.bool false) ∧ ∃ m, w' = w.drewN m := by
  have d1 : decide (x < 0) = true := decide_eq_true (by omega)
  go_enter Tryd.func63, Tryd.ntmps63
  go_wp2_with fail
  go_ret
  first | exact ⟨rfl, _, rfl⟩ | exact ⟨rfl, 0, rfl⟩
theorem give_high (g k gl fr n gh : Nat) (x : Int) (w : World) (h : HoldsV 108 w g (boxv k gl fr n gh)) (hx : 0 ≤ x) (hk : (k : Int) ≤ x) : Calls Tryd.prog 63 #[.pointer (some ⟨g, 0, none⟩), .int .i64 x] w fun r w' => r = .returned (.bool false) ∧ ∃ m, w' = w.drewN m := by
  have h0 : w.cell? ⟨g, 0, none⟩ = some (.int .i64 (k : Int)) := h.cell 0
  have d1 : decide (x < 0) = false := decide_eq_false (by omega)
  have d2 : decide ((k : Int) ≤ x) = true := decide_eq_true (by omega)
  clear h
  go_enter Tryd.func63, Tryd.ntmps63
  go_wp2_with fail
  go_ret
  first | exact ⟨rfl, _, rfl⟩ | exact ⟨rfl, 0, rfl⟩
theorem give_has (g k gl fr n gh : Nat) (x : Nat) (w : World) (h : HoldsV 108 w g (boxv k gl fr n gh)) (hx : x < k) (hb : w.cell? ⟨gh, x, none⟩ = some (.bool true)) :
    Calls Tryd.prog 63 #[.pointer (some ⟨g, 0, none⟩), .int .i64 (x : Int)] w fun r w' => r = .returned (.bool false) ∧ ∃ m, w' = w.drewN m := by
  have h0 : w.cell? ⟨g, 0, none⟩ = some (.int .i64 (k : Int)) := h.cell 0
  have h4 : w.cell? ⟨g, 4, none⟩ = some (.slice (some ⟨gh, 0, none⟩) k k) := h.cell 4
  have d1 : decide ((x : Int) < 0) = false := decide_eq_false (by omega)
  have d2 : decide ((k : Int) ≤ (x : Int)) = false := decide_eq_false (by omega)
  clear h
  go_enter Tryd.func63, Tryd.ntmps63
  go_wp2_with fail
  go_ret
  first | exact ⟨rfl, _, rfl⟩ | exact ⟨rfl, 0, rfl⟩
set_option maxHeartbeats 2000000 in
theorem give_yes (g k gl fr n gh p : Nat) (x : Nat) (w : World) (h : HoldsV 108 w g (boxv k gl fr n gh)) (hx : x < k) (hb : w.cell? ⟨gh, x, none⟩ = some (.bool false))
    (hfl : w.frozen? ⟨gl, p, none⟩ = false) (hcl : ∃ v, w.cell? ⟨gl, p, none⟩ = some v) (hfh : w.frozen? ⟨gh, x, none⟩ = false) (ne : g ≠ gl ∧ g ≠ gh ∧ gl ≠ gh) (hp : ((fr : Int) + (n : Int)).tmod (k : Int) = (p : Int)) (hpk : p < k) (hb1 : fr ≤ 1024 ∧ n ≤ 1024 ∧ k ≤ 1024) :
    Calls Tryd.prog 63 #[.pointer (some ⟨g, 0, none⟩), .int .i64 (x : Int)] w fun r w' => r = .returned (.bool true) ∧
      SameMem (((w.setCell ⟨gl, p, none⟩ (.int .i64 (x : Int))).setCell ⟨g, 3, none⟩ (.int .i64 ((n : Int) + 1))).setCell ⟨gh, x, none⟩ (.bool true)) w' := by
  have h0 : w.cell? ⟨g, 0, none⟩ = some (.int .i64 (k : Int)) := h.cell 0
  have h1 : w.cell? ⟨g, 1, none⟩ = some (.slice (some ⟨gl, 0, none⟩) k k) := h.cell 1
  have h2 : w.cell? ⟨g, 2, none⟩ = some (.int .i64 (fr : Int)) := h.cell 2
  have h3 : w.cell? ⟨g, 3, none⟩ = some (.int .i64 (n : Int)) := h.cell 3
  have h4 : w.cell? ⟨g, 4, none⟩ = some (.slice (some ⟨gh, 0, none⟩) k k) := h.cell 4
  have f3 := h.free 3
  have d1 : decide ((x : Int) < 0) = false := decide_eq_false (by omega)
  have d2 : decide ((k : Int) ≤ (x : Int)) = false := decide_eq_false (by omega)
  have d3 : ((k : Int) == 0) = false := by rw [beq_eq_false_iff_ne]; omega
  obtain ⟨ne1, ne2, ne3⟩ := ne
  have ne1' := Ne.symm ne1
  have ne2' := Ne.symm ne2
  have ne3' := Ne.symm ne3
  obtain ⟨v0, hv0⟩ := hcl
  clear h
  go_enter Tryd.func63, Tryd.ntmps63
  go_wp2_with fail
  go_region
  all_goals go_wp2
  all_goals go_ret
  all_goals exact ⟨rfl, rfl, rfl, rfl, rfl⟩
end Go.Proofs.YthonkcldddfpnaaDoor.Free
