/- A pace: below which so many of a hundred are. -/
import Derived.Test.YtbbaonaahokidaaPace
namespace Go.Proofs.Ytbbaonaahokidaa.Pace
open Go.RowKit Go.Proofs.Ytbbaonaahokidaa.PPaceBands Go.Proofs.YtbbaonaahokidaaW.PrintWords Go.Proofs.YtbbaonaahokidaaW.PrintLast Go.Proofs.YtbbaonaahokidaaW.PrintMore Go.Proofs.Ytbbaonaahokidaa.Aid Go.Proofs.Ytbbaonaahokidaa.Quiet Go.Proofs.Ytbbaonaahokidaa.Blk Go.Proofs.Ytbbaonaahokidaa.State Go.Proofs.Ytbbaonaahokidaa.Part
set_option linter.unusedVariables false
attribute [local go_sem] max2_int min2_int max_two min_two

theorem q_of {P : Program} {f : FuncId} {args : Array Value} {v : Value} {w : World} {n : Nat} (h : Calls P f args (w.drewN n) fun e w' => e = .returned v ∧ ∃ m, w' = (w.drewN n).drewN m) :
    Calls P f args (w.drewN n) fun e w'' => e = .returned v ∧ ∃ m, w'' = w.drewN m := Calls.quiet_of h
theorem wpList_load_part {P : Program} {ops : Array Oper} {rest : List Oper} {o : Oper} {a : Act} {Q : Exit → Act → World → Prop} {w : World} (hgd : o.guard = none) (ty : TypeId) (x : Operand) (ho : o.op = .load ty x)
    (g : Nat) (hx : a.eval x = .pointer (some ⟨g, 0, none⟩)) (t : TypeId) (n : Nat) (k : IntKind) (L : List Int) (d : TypeDesc) (hg : Holds k t w g L) (hn : n ≤ L.length)
    (hu : P.underlying ty = some d) (hd : (match d with | .struct _ | .array _ _ => true | _ => false) = true) (hi : (P.info? ty).map (·.size) = some n)
    (h : wpList P ops Q rest (a.put o.dst (.agg (arr k (L.take n)))) w) : wpList P ops Q (o :: rest) a w := by
  refine wpList_plain hgd fun K hK' => ?_
  exact wp_load_part ty x ho g hx t n k L d hg hn hu hd hi (hK' _ _ h)
theorem info3 : (Try.prog.info? 3).map (fun i => (i.zero, i.size, i.bytes)) = some (some (.int .i64 0), 1, 8) := by kernel_rfl
theorem index_run (L : List Int) (hL : L.length = 44) (j : Nat) (hj : j < 42) (w : World) : (Instr.index 81 (.agg (arr .i64 (L.take 42))) (.int .i64 (j : Int))).run Try.prog w = .ok (.int .i64 (L[j]?.getD 0)) w := by
  obtain ⟨i0, hi, hz⟩ := Option.map_eq_some_iff.1 info3
  simp only [Prod.mk.injEq] at hz
  have h81 := Try.underlying81
  have h3 := Try.underlying3
  have hget : (arr .i64 (L.take 42))[j]? = some (.int .i64 (L[j]?.getD 0)) := by
    rw [arr_get, List.getElem?_take, if_pos hj, List.getElem?_eq_getElem (by omega)]
    rfl
  simp [Instr.index, asIntOf, Sem.run_bind, run_underlying h81, part, isAgg, run_underlying h3, sizeOf, typeInfo, hi, hz.2.1, hget, Result.andThen, hj]
/-- How many are in the first j bands. -/
def pre (L : List Int) : Nat → Int
  | 0 => 0
  | j + 1 => pre L j + L[j]?.getD 0
set_option maxHeartbeats 2000000 in
set_option maxRecDepth 100000 in
theorem below_at (g : Nat) (L : List Int) (hL : L.length = 44) (h hm wq lo v : Int) (jr : Nat) (w : World) (hH : Holds .i64 83 w g L) (hhm : mn (mx h 0) 100 = hm) (hall : 1 ≤ (L[42]?.getD 0 : Int) ∧ (L[42]?.getD 0 : Int) ≤ 1000) (hhb : 0 ≤ hm ∧ hm ≤ 100)
    (hwq : ((L[42]?.getD 0 : Int) * hm + 99).tdiv 100 = wq) (hjr : jr < 42) (hbef : ∀ i, i < jr → pre L (i + 1) < wq) (hat : wq ≤ pre L (jr + 1)) (hpre : ∀ i, i ≤ 42 → 0 ≤ pre L i ∧ pre L i ≤ 100000)
    (hlo : pace_Low.f ((jr : Int) + 1) = some lo) (hlb : 1 ≤ lo ∧ lo ≤ 1099511627776) (hv : (if jr = 41 then (L[43]?.getD 0 : Int) else mn (lo - 1) (L[43]?.getD 0)) = v) (hsm : ∀ i, i < 42 → 0 ≤ (L[i]?.getD 0 : Int) ∧ (L[i]?.getD 0 : Int) ≤ 1000) :
    Calls Try.prog 56 #[.pointer (some ⟨g, 0, none⟩), .int .i64 h] w fun r w' => r = .returned (.int .i64 v) ∧ ∃ m, w' = w.drewN m := by
  have HLEN := Aside0.mk (fun (w : World) (x : Holds .i64 83 w g L) => len_at g L hL w x)
  have c42 := hH.cell (i := 42) (by omega)
  obtain ⟨al, hal⟩ : ∃ x, (L[42]?.getD 0 : Int) = x := ⟨_, rfl⟩
  rw [hal] at c42 hall hwq HLEN
  obtain ⟨hx, hhx⟩ : ∃ x, (if h < 0 then 0 else h) = x := ⟨_, rfl⟩
  have hh2 : (if 100 < hx then 100 else hx) = hm := by rw [← hhm, ← hhx]; rfl
  have hmul : 0 ≤ al * hm ∧ al * hm ≤ 100000 := ⟨Int.mul_nonneg (by omega) (by omega), Int.le_trans (Int.mul_le_mul_of_nonneg_right hall.2 hhb.1) (by omega)⟩
  obtain ⟨pr, hpr⟩ : ∃ x, al * hm = x := ⟨_, rfl⟩
  rw [hpr] at hmul hwq
  have hwb : 0 ≤ wq ∧ wq ≤ 100000 := by rw [Int.tdiv_eq_ediv_of_nonneg (by omega)] at hwq; omega
  obtain ⟨cs, hcs⟩ : ∃ cs, arr .i64 (L.take 42) = cs := ⟨_, rfl⟩
  have IX := Aside0.mk (fun (j : Nat) (hj : j < 42) => fun w => (hcs ▸ index_run L hL j hj w : (Instr.index 81 (.agg cs) (.int .i64 (j : Int))).run Try.prog w = .ok (.int .i64 (L[j]?.getD 0)) w))
  have HH := Aside0.mk hH
  have HBEF := Aside0.mk hbef
  have HAT := Aside0.mk hat
  have HPRE := Aside0.mk hpre
  have HLO := Aside0.mk (fun w => (pace_Low.calls ((jr : Int) + 1) lo w hlo).mono (R' := fun r w' => r = .returned (.int .i64 lo) ∧ ∃ m, w' = w.drewN m) fun _ _ ⟨a, b⟩ => ⟨a, b.out⟩)
  have HV := Aside0.mk hv
  have HSM := Aside0.mk hsm
  have HCS := Aside0.mk hcs
  have d0 : (al == 0) = false := by rw [beq_eq_false_iff_ne]; omega
  have hal0 : ¬ al = 0 := by omega
  clear hH hhm hal hbef hat hpre hlo hv hcs hhb hsm
  go_enter Try.func56, Try.ntmps56
  go_wp2_with fail
  refine (HLEN.out _ HH.out).mono ?_
  rintro e w1 ⟨rfl, n1, rfl⟩
  go_wp2_with (first
    | ((with_reducible refine gate_dst (N := 25) rfl ?_); refine wpList_load_part rfl 81 (.tmp 24) rfl g rfl 83 42 .i64 L _ (HH.out.drewN n1) (by omega) Try.underlying81 rfl (by kernel_rfl) ?_; rw [HCS.out]))
  go_loopg [6, 26] 42 (fun gg u i wx => ∃ (j : Nat) (n : Nat), gg + j = 42 ∧ j ≤ jr ∧ i = .int .i64 (j : Int) ∧ u = .int .i64 (pre L j) ∧ wx = w.drewN n)
  case atStart => exact ⟨0, _, rfl, by omega, rfl, rfl, rfl⟩
  case round =>
    obtain ⟨j, n, hj, hjr2, rfl, rfl, rfl⟩ := hrel
    have HJ := Aside0.mk hj
    have d1 : decide ((j : Int) < 42) = true := decide_eq_true (by omega)
    have hix := IX.out j (by omega)
    have hsv := HSM.out j (by omega)
    have hp1 := HPRE.out j (by omega)
    have hp2 := HPRE.out (j + 1) (by omega)
    obtain ⟨vj, hvj⟩ : ∃ x, (L[j]?.getD 0 : Int) = x := ⟨_, rfl⟩
    obtain ⟨pj, hpj⟩ : ∃ x, pre L j = x := ⟨_, rfl⟩
    have hp3 : pre L (j + 1) = pj + vj := by rw [← hpj, ← hvj]; rfl
    rw [hvj] at hix hsv
    rw [hpj] at hp1 ⊢
    rw [hp3] at hp2
    have HP3 := Aside0.mk hp3
    clear hj hvj hpj hp3
    by_cases hlt : j < jr
    · have hb := HBEF.out j hlt
      rw [HP3.out] at hb
      have d2 : decide (wq ≤ pj + vj) = false := decide_eq_false (by omega)
      go_wp2_with fail
      go_roundg (42 - (j + 1))
      case measure => have := HJ.out; omega
      case rel => exact ⟨j + 1, n, by have := HJ.out; omega, by omega, by go_num, by rw [HP3.out], rfl⟩
    · obtain rfl : j = jr := by omega
      have ha := HAT.out
      rw [HP3.out] at ha
      have d2 : decide (wq ≤ pj + vj) = true := decide_eq_true ha
      have c43 := HH.out.cell (i := 43) (by omega)
      obtain ⟨v2, hv2⟩ : ∃ x, (L[43]?.getD 0 : Int) = x := ⟨_, rfl⟩
      rw [hv2] at c43
      have hv := HV.out
      rw [hv2] at hv
      clear hv2
      by_cases h41 : j = 41
      · have d3 : ((j : Int) == 41) = true := by rw [beq_iff_eq]; omega
        rw [if_pos h41] at hv
        subst hv
        clear h41
        go_wp2_with fail
        go_ret
        exact ⟨rfl, _, rfl⟩
      · have d3 : ((j : Int) == 41) = false := by rw [beq_eq_false_iff_ne]; omega
        rw [if_neg h41] at hv
        have hmn : (if v2 < lo - 1 then v2 else lo - 1) = v := hv
        clear hv
        go_wp2_with fail
        obtain ⟨wb, hwb⟩ : ∃ wb, w.drewN n = wb := ⟨_, rfl⟩
        have c44 : wb.cell? ⟨g, 43, none⟩ = some (.int .i64 v2) := by rw [← hwb]; exact c43
        rw [hwb]
        have HWB := Aside0.mk hwb
        clear hwb c43
        go_quiet ((first | (go_at_call 51; exact q_of (HLO.out _))))
        go_wp2_with fail
        go_ret
        exact ⟨rfl, n + nq, by rw [← HWB.out]; simp⟩
end Go.Proofs.Ytbbaonaahokidaa.Pace
