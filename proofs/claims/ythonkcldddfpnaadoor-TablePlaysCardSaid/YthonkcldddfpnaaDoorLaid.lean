/- A listed variable that holds two whole numbers: its two cells. -/
import Derived.Test.YthonkcldddfpnaaDoorRows
import Derived.ProofKit
import Derived.LaidMore
import Derived.OpenShut
import Derived.Stop.Joined
import Derived.FnData
namespace Go.Proofs.YthonkcldddfpnaaDoor.Laid
open Go Go.ChangeShapes Go.WideShapes Go.ChangeAt Go.RowKit

theorem two_ints {H : Type} {enc : TypeId × Value → H} {P : Program} {w : World} {base : Nat} {spare : Nat → Bool} {held : Bool} {fuel : Nat} {t : TypeId} {f0 f1 : Field} {k0 k1 : IntKind} {cs : List Value} {a b : Int} {p : List MemPlace}
    (hu : P.underlying t = some (.struct #[f0, f1])) (h0 : P.underlying f0.type = some (.int k0)) (h1 : P.underlying f1.type = some (.int k1)) (o0 : f0.offset = 0) (o1 : f1.offset = 1) (c0 : P.cellsOf f0.type = 1) (c1 : P.cellsOf f1.type = 1) (ct : P.cellsOf t = 2)
    (h : DataW.trod enc P w base spare held fuel t cs = some (.agg [.lit (.int k0 a), .lit (.int k1 b)], p)) : cs = [.int k0 a, .int k1 b] := by
  cases fuel with
  | zero => simp [DataW.trod] at h
  | succ fuel =>
    unfold DataW.trod at h
    rw [hu] at h
    simp only at h
    split at h
    · rename_i hlen
      rw [ct] at hlen
      match cs, hlen with
      | [x, y], _ =>
        obtain ⟨xs, hxs, he⟩ := Option.map_eq_some_iff.1 h
        simp only [List.mapM_cons, List.mapM_nil, o0, o1, c0, c1, List.drop_zero, List.take_succ_cons, List.take_zero, List.drop_succ_cons, Option.bind_eq_bind, Option.bind_eq_some_iff] at hxs
        obtain ⟨y0, hy0, ys, ⟨y1, hy1, ys1, hn, hn1⟩, hn2⟩ := hxs
        obtain ⟨a', e1, e2, _⟩ := DataW.trod_int h0 hy0
        obtain ⟨b', e3, e4, _⟩ := DataW.trod_int h1 hy1
        obtain rfl : ([] : List (DataW H × List MemPlace)) = ys1 := by simpa using hn
        obtain rfl : [y1] = ys := by simpa using hn1
        obtain rfl : [y0, y1] = xs := by simpa using hn2
        subst e2
        subst e4
        simp at he e1 e3
        obtain ⟨⟨rfl, rfl⟩, _⟩ := he
        rw [e1, e3]
    · simp at h
end Go.Proofs.YthonkcldddfpnaaDoor.Laid
