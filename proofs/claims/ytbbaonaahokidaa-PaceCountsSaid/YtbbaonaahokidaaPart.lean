/- An array that is the first part of a block: loaded as one value; one of it read. -/
import Derived.Below
import Derived.Laws.Rows
import Derived.Deep.OwnRows
import Derived.Test.YtbbaonaahokidaaBlk
namespace Go.Proofs.Ytbbaonaahokidaa.Part
open Go Go.RowKit Go.Proofs.Ytbbaonaahokidaa.Quiet Go.Proofs.Ytbbaonaahokidaa.Blk
section
variable {P : Program}
theorem run_loadVar_part (w : World) (g : Nat) (t ty : TypeId) (n : Nat) (k : IntKind) (L : List Int) (d : TypeDesc) (hg : Holds k t w g L) (hn : n ≤ L.length)
    (hu : P.underlying ty = some d) (hd : (match d with | .struct _ | .array _ _ => true | _ => false) = true) (hi : (P.info? ty).map (·.size) = some n) :
    (loadVar ty ⟨g, 0, none⟩).run P w = .ok (.agg (arr k (L.take n))) w := by
  have hlen : (arr k (L.take n)).toList.length = n := by simp [arr]; omega
  have hl : (loadCells ⟨g, 0, none⟩ (arr k (L.take n)).toList.length).run P w = .ok (arr k (L.take n)).toList.toArray w :=
    run_loadCells_list (P := P) w ⟨g, 0, none⟩ (arr k (L.take n)).toList (fun j v hv => by
      have hadd : (⟨g, 0, none⟩ : Addr).add j = ⟨g, j, none⟩ := by unfold Addr.add; split <;> simp_all
      have hj : j < n := by
        have := (List.getElem?_eq_some_iff.1 hv).1
        omega
      rw [hadd, hg.cell (by omega)]
      rw [← hv]
      simp [arr, hj, List.getElem?_eq_getElem (show j < L.length by omega)])
  cases hq : P.info? ty with
  | none => simp [hq] at hi
  | some i =>
    have hs : i.size = n := by simpa [hq] using hi
    have hagg : (isAgg ty).run P w = .ok true w := by
      unfold isAgg
      rw [Sem.run_bind, run_underlying hu w]
      cases d <;> simp_all
    rw [hlen] at hl
    simp only [Array.toArray_toList] at hl
    simp [loadVar, Sem.run_bind, hagg, sizeOf, typeInfo, hq, hs, hl]
theorem wp_load_part {o : Oper} {a : Act} {w : World} {K : Act → World → Prop} {Q : Exit → Act → World → Prop} (ty : TypeId) (x : Operand) (ho : o.op = .load ty x)
    (g : Nat) (hx : a.eval x = .pointer (some ⟨g, 0, none⟩)) (t : TypeId) (n : Nat) (k : IntKind) (L : List Int) (d : TypeDesc) (hg : Holds k t w g L) (hn : n ≤ L.length)
    (hu : P.underlying ty = some d) (hd : (match d with | .struct _ | .array _ _ => true | _ => false) = true) (hi : (P.info? ty).map (·.size) = some n)
    (h : K (a.put o.dst (.agg (arr k (L.take n)))) w) : o.wp P a w K Q := by
  unfold Oper.wp execOp
  simp only [ho, hx, Instr.loadAt, Instr.sureAddr, Sem.run_bind, Sem.run_pure, Result.andThen_ok, run_loadVar_part w g t ty n k L d hg hn hu hd hi]
  exact h
end
end Go.Proofs.Ytbbaonaahokidaa.Part
