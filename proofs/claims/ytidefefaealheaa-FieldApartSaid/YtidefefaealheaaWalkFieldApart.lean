/- FieldApart's call comes to true: the printed walk over the statement on numbers and lists. -/
import Derived.Test.YtidefefaealheaaFieldApartP
import Derived.Test.YtidefefaealheaaOpen
namespace Go.Proofs.Ytidefefaealheaa.walkFieldApart
open Go.RowKit Go.Proofs.Ytidefefaealheaa.Open Go.Proofs.Ytidefefaealheaa.PFieldApart Go.Proofs.YtidefefaealheaaW.PrintWords Go.Proofs.YtidefefaealheaaW.PrintLast

set_option linter.unusedVariables false

theorem wf_u64 {a : Int} (h : (Lit.int .u64 a).wf = true) : 0 ≤ a ∧ a < 18446744073709551616 := by
  simp [Lit.wf, IntKind.min, IntKind.max, IntKind.signed, IntKind.bits] at h; omega

def asS (x : Pts [.int .i64, .int .i64]) : S37 := ⟨x.1, x.2.1⟩

theorem reads (W : World) (A : Option Addr) (l : List (Pts [.int .i64, .int .i64])) (h : RowsOf W [.int .i64, .int .i64] A l) (hl : l.length ≤ 9223372036854775807) : Kd.C k37 W A (l.map asS).length (l.map asS) := by
  refine ⟨rfl, by simpa using hl, fun hp => ?_⟩
  have hp : 0 < l.length := by simpa using hp
  obtain ⟨a, hA, _⟩ := h 0 hp
  refine ⟨a, hA, fun j p hj => ?_⟩
  obtain ⟨x, hx, rfl⟩ : ∃ x, l[j]? = some x ∧ asS x = p := by simpa [List.getElem?_map, Option.map_eq_some_iff] using hj
  obtain ⟨hj', hx⟩ := List.getElem?_eq_some_iff.1 hx
  obtain ⟨a', hA', hc⟩ := h j hj'
  rw [hA] at hA'
  injection hA' with hA'
  subst hA'
  refine ⟨_, rfl, k37_mk W (asS x), fun i u hu => ?_⟩
  have hi : i < 2 := by have := (List.getElem?_eq_some_iff.1 hu).1; simpa using this
  have := hc i hi
  rw [hx] at this
  rw [show k37.sz = [Leaf.int .i64, Leaf.int .i64].length from rfl]
  exact this.trans hu

theorem walk (a0 : Int) (A1 : Option Addr) (c1 : Nat) (l1 : List (Pts [.int .i64, .int .i64])) (W : World) (w0 : (Lit.int .u64 a0).wf = true) (ro1 : RowsOf W [.int .i64, .int .i64] A1 l1) (w1 : ∀ x ∈ l1, wfs [.int .i64, .int .i64] x) (lc1 : l1.length ≤ c1) (cm1 : c1 ≤ maxLen) (nn1 : A1 = none → c1 = 0) :
    Calls Try.prog 5 #[.int .u64 a0, .slice A1 l1.length c1] W fun e W' => e = .returned (.bool true) ∧ Below W.heap.size W W' := by
  have hb := wf_u64 w0
  have hl : l1.length ≤ maxLen := Nat.le_trans lc1 cm1
  have h := FieldApartP.FieldApart a0 hb.1 hb.2 (l1.map asS) (by simpa using hl)
  have hc := cablewaylaw01_FieldApart.calls 20000 a0 A1 c1 (l1.map asS) true W (reads W A1 l1 ro1 (by unfold maxLen at hl; exact hl)) (by simpa using lc1) h
  rw [List.length_map] at hc
  exact hc
end Go.Proofs.Ytidefefaealheaa.walkFieldApart
