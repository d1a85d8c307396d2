/- Whatever times come, a pace counts them by their bands: the walk of PaceCounts. -/
import Derived.Test.YtbbaonaahokidaaPaceGood
import Derived.Test.YtbbaonaahokidaaOpen
import Derived.Deep.CutBlock
import Derived.Deep.WholeRow
namespace Go.Proofs.Ytbbaonaahokidaa.walkPaceCounts
open Go.RowKit Go.Proofs.Ytbbaonaahokidaa.PPaceBands Go.Proofs.YtbbaonaahokidaaW.PrintWords Go.Proofs.YtbbaonaahokidaaW.PrintLast Go.Proofs.YtbbaonaahokidaaW.PrintMore Go.Proofs.Ytbbaonaahokidaa.Open Go.Proofs.Ytbbaonaahokidaa.Aid Go.Proofs.Ytbbaonaahokidaa.Quiet Go.Proofs.Ytbbaonaahokidaa.Blk Go.Proofs.Ytbbaonaahokidaa.State Go.Proofs.Ytbbaonaahokidaa.Part Go.Proofs.Ytbbaonaahokidaa.Pace
set_option linter.unusedVariables false
attribute [local go_sem] max2_int min2_int max_two min_two

/-- What holds between two times: the pace g1 and the law's own numbers g2 agree. -/
structure Inv (W : World) (g1 g2 : Nat) (w : World) (L : List Int) (n : Nat) : Prop where
  good : Cnt L n
  pace : Holds .i64 83 w g1 L
  own : Holds .i64 81 w g2 (L.take 42)
  below : Below W.heap.size W w
  old : W.heap.size ≤ g1 ∧ W.heap.size ≤ g2
  ne : g1 ≠ g2
section
variable {W : World} {g1 g2 n : Nat} {w w' : World} {L : List Int}
theorem Inv.next (h : Inv W g1 g2 w L n) (hb : Below w.heap.size w w') : Inv W g1 g2 w' L n :=
  ⟨h.good, h.pace.below hb h.pace.lt, h.own.below hb h.own.lt, h.below.trans (hb.mono h.below.size), h.old, h.ne⟩
theorem Inv.drewN (h : Inv W g1 g2 w L n) (m : Nat) : Inv W g1 g2 (w.drewN m) L n := h.next (below_drewN (Below.refl _ _) m)
theorem Inv.cell (h : Inv W g1 g2 w L n) {p : Addr} {v : Value} (hc : W.cell? p = some v) : w.cell? p = some v :=
  (h.below.cell (World.block_lt_of_cell? _ _ hc)).trans hc
theorem Inv.put (h : Inv W g1 g2 w L n) {b c : Nat} (hb : b < 42) (hc : c ≤ 1099511627776) {w1 : World} (h1 : Holds .i64 83 w1 g1 (putL L b c)) (o1 : OnlyAt g1 w w1)
    (w3 : World) (hb3 : Below w1.heap.size w1 w3) (v : Int) (hv : v = L[b]?.getD 0 + 1) : Inv W g1 g2 (w3.setCell ⟨g2, b, none⟩ (.int .i64 v)) (putL L b c) (n + 1) := by
  subst hv
  have hl := h.good.len
  have hown : Holds .i64 81 w3 g2 (L.take 42) := by
    have hh : Holds .i64 81 w1 g2 (L.take 42) := o1.blk (Ne.symm h.ne) h.own
    exact hh.below hb3 hh.lt
  refine ⟨h.good.put b hb c ⟨by omega, by omega⟩, ?_, ?_, ?_, h.old, h.ne⟩
  · exact set_other _ (h1.below hb3 h1.lt) h.ne
  · have e := hown.set b (L[b]?.getD 0 + 1)
    have hq : (putL L b c).take 42 = (L.take 42).set b (L[b]?.getD 0 + 1) := by
      unfold putL
      apply List.ext_getElem?
      intro i
      simp only [List.getElem?_take, List.getElem?_set, List.length_set, List.length_take]
      by_cases h42 : i < 42
      · rw [if_pos h42, if_neg (by omega), if_neg (by omega), hl]
        by_cases hbi : b = i
        · subst hbi
          rw [if_pos rfl, if_pos rfl, if_pos (by omega), if_pos (by omega)]
        · rw [if_neg hbi, if_neg hbi, if_pos h42]
      · rw [if_neg h42]
        by_cases hbi : b = i
        · omega
        · rw [if_neg hbi, if_neg h42]
    rw [hq]
    exact e
  · have hb1 : Below W.heap.size W w1 := o1.below h.below h.old.1 h.below.size
    have hb2 : Below W.heap.size W w3 := hb1.trans (hb3.mono hb1.size)
    exact hb2.setCell h.old.2 _
end
def wantAt (jr : Nat) (mo : Int) (b : Nat) : Int := if b = 0 then 0 else mn (((2 ^ min (b - 1) jr : Nat) : Int) - 1) mo
def fin (n jr : Nat) (mo : Int) : Int := if n = 0 then 0 else wantAt jr mo 42
theorem bel {L : List Int} {n jr : Nat} (hC : Cnt L n) (hn : n ≤ 60) (a1 hx hm : Int) (hhx : (if a1 < 0 then 0 else a1) = hx) (hhm : (if 100 < hx then 100 else hx) = hm) (hmb : 0 ≤ hm ∧ hm ≤ 100) (hjr : jr < 42)
    (hl : ∀ b, b < 42 → ((decide (0 < (n : Int)) && decide (pre L b * 100 < (n : Int) * hm) || b == 0) = decide (b ≤ jr))) (g : Nat) (w : World) (h : Holds .i64 83 w g L) :
    Calls Try.prog 56 #[.pointer (some ⟨g, 0, none⟩), .int .i64 a1] w fun r w' => r = .returned (.int .i64 (fin n jr (L[43]?.getD 0))) ∧ ∃ m, w' = w.drewN m := by
  by_cases h0 : n = 0
  · subst h0
    exact below_none g L hC.len a1 w h hC.all
  · obtain ⟨h1, h2⟩ := hC.meets hm hmb (by omega) jr hjr hl _ rfl
    have hp : ∀ i, i ≤ 42 → 0 ≤ pre L i ∧ pre L i ≤ 100000 := fun i hi => by have := hC.pre_le i hi; omega
    have hs : ∀ i, i < 42 → 0 ≤ (L[i]?.getD 0 : Int) ∧ (L[i]?.getD 0 : Int) ≤ 1000 := fun i hi => by have := hC.le i hi; omega
    have hall := hC.all
    have hm1 := hC.most1
    have p41 : (2 : Nat) ^ 41 = 2199023255552 := by decide
    have hv : fin n jr (L[43]?.getD 0) = mn (((2 ^ jr : Nat) : Int) - 1) (L[43]?.getD 0) := by
      unfold fin wantAt
      rw [if_neg h0, if_neg (by omega), Nat.min_eq_right (by omega)]
    rw [hv]
    by_cases h41 : jr = 41
    · subst h41
      refine below_at g L hC.len a1 hm _ 1099511627776 _ 41 w h (by rw [← hhm, ← hhx]; rfl) (by omega) hmb rfl (by omega) (by rw [hall]; exact h1) (by rw [hall]; exact h2) hp (by kernel_rfl) (by omega) ?_ hs
      rw [if_pos rfl, p41]
      unfold mn
      rw [if_pos (by omega)]
    · have hlo := walkPaceBands.low_f (jr + 1) (by omega)
      rw [if_neg (by omega), Nat.add_sub_cancel] at hlo
      have hq : 2 ^ jr ≤ 2 ^ 40 := Nat.pow_le_pow_right (by omega) (by omega)
      have hq0 : 0 < 2 ^ jr := Nat.pow_pos (by omega)
      have p40 : (2 : Nat) ^ 40 = 1099511627776 := by decide
      refine below_at g L hC.len a1 hm _ ((2 ^ jr : Nat) : Int) _ jr w h (by rw [← hhm, ← hhx]; rfl) (by omega) hmb rfl (by omega) (by rw [hall]; exact h1) (by rw [hall]; exact h2) hp hlo (by omega) ?_ hs
      rw [if_neg h41]
theorem wantAt_stay (jr : Nat) (mo : Int) (b : Nat) (h : ¬ b ≤ jr) : wantAt jr mo (b + 1) = wantAt jr mo b := by
  unfold wantAt
  rw [if_neg (by omega), if_neg (by omega), Nat.min_eq_right (by omega), Nat.min_eq_right (by omega)]
theorem wantAt_step (jr : Nat) (mo : Int) (b : Nat) (h : b ≤ jr) : wantAt jr mo (b + 1) = mn (((2 ^ b : Nat) : Int) - 1) mo := by
  unfold wantAt
  rw [if_neg (by omega), Nat.add_sub_cancel, Nat.min_eq_left h]
theorem Inv.start (W : World) (c1 c2 : Array Value) (h1 : c1 = arr .i64 (List.replicate 44 0)) (h2 : c2 = arr .i64 (List.replicate 42 0)) : Inv W W.heap.size (W.heap.size + 1) ((W.alloc (.cells c1 83)).alloc (.cells c2 81)) (List.replicate 44 0) 0 := by
  have hs : ∀ o, (W.alloc o).heap.size = W.heap.size + 1 := fun o => Array.size_push ..
  refine ⟨Cnt.zero, ?_, ?_, ?_, ⟨Nat.le_refl _, by omega⟩, by omega⟩
  · rw [h1]; exact heap_old (heap_new W (.cells _ 83))
  · rw [h2]; exact heap_new' (w := W.alloc (.cells c1 83)) _ (hs _)
  · exact ((Below.refl _ _).alloc (Nat.le_refl _) _).alloc (by rw [hs]; omega) _
theorem wpList_store_new {P : Program} {ops : Array Oper} {rest : List Oper} {o : Oper} {a : Act} {Q : Exit → Act → World → Prop} {w : World} (hgd : o.guard = none) (ty : TypeId) (x y : Operand) (ho : o.op = .store ty x y)
    (g : Nat) (hgs : w.heap.size = g) (c cells : Array Value) (hx : a.eval x = .pointer (some ⟨g, 0, none⟩)) (hy : a.eval y = .agg cells) (hi : (P.info? ty).map (·.size) = some cells.size) (hold : c.size = cells.size) (h1 : cells.all (·.oneCell') = true)
    (h : wpList P ops Q rest (a.put o.dst undef) (w.alloc (.cells cells ty))) : wpList P ops Q (o :: rest) a (w.alloc (.cells c ty)) := by
  subst hgs
  refine wpList_store_row hgd ty x y ho _ cells hx hy ty c (heap_alloc_last w _) hi hold h1 ?_
  rw [World.setRow_alloc_new]
  exact h

set_option maxHeartbeats 8000000 in
set_option maxRecDepth 100000 in
theorem core (A1 : Option Addr) (l : List (Pts [.int .i64])) (c k : Nat) (a1 hx hm : Int) (W : World) (hk : (if (60 : Int) < (l.length : Int) then (60 : Int) else (l.length : Int)) = (k : Int)) (hk6 : k ≤ 60) (hkl : k ≤ l.length) (hl : l.length ≤ 9223372036854775807)
    (hhx : (if a1 < 0 then 0 else a1) = hx) (hhm : (if 100 < hx then 100 else hx) = hm) (hmb : 0 ≤ hm ∧ hm ≤ 100)
    (ro : ∀ i (h : i < l.length), ∃ a, A1 = some a ∧ W.cell? (a.add i) = some (.int .i64 (l[i]).1)) :
    Calls Try.prog 12 #[.slice A1 l.length c, .int .i64 a1] W fun e W' => e = .returned (.bool true) ∧ Below W.heap.size W W' := by
  have HR := Aside0.mk ro
  have HK := Aside0.mk (And.intro hk6 hkl)
  have HM := Aside0.mk (And.intro hhx (And.intro hhm hmb))
  clear ro hhx hhm hk6 hkl
  go_enter Try.func12, Try.ntmps12
  go_upto_region 2 with (first | ((with_reducible refine gate_store (t := 81) (p := 6) (v := .tmp 19) rfl ?_); refine wpList_store_new rfl 81 (.tmp 6) (.tmp 19) rfl (W.heap.size + 1) (Array.size_push ..) _ (arr .i64 (List.replicate 42 0)) rfl rfl (by kernel_rfl) rfl (by kernel_rfl) ?_))
  go_cut [8] from 17 (fun v wx => v = .int .i64 (k : Int) ∧ Inv W W.heap.size (W.heap.size + 1) wx (List.replicate 44 0) 0)
  case first =>
    go_wp2_with fail
    go_meet
    exact ⟨by rw [← hk], Inv.start W _ _ rfl rfl⟩
  case rest =>
    obtain ⟨rfl, hI⟩ := hcut
    obtain ⟨g1, hg1⟩ : ∃ g, W.heap.size = g := ⟨_, rfl⟩
    obtain ⟨g2, hg2⟩ : ∃ g, g1 + 1 = g := ⟨_, rfl⟩
    rw [hg1, hg2] at hI ⊢
    have HI := Aside0.mk hI
    have HG := Aside0.mk hg1
    clear hI hg1 hg2
    go_wp2_with fail
    go_loopg [7, 9] k (fun gg mo i wx => ∃ (j : Nat) (L : List Int), gg + j = k ∧ i = .int .i64 (j : Int) ∧ mo = .int .i64 (L[43]?.getD 0) ∧ Inv W g1 g2 wx L j)
    case atStart => exact ⟨0, _, rfl, rfl, rfl, HI.out⟩
    case round =>
      clear HI
      obtain ⟨j, L, hj, rfl, rfl, hI⟩ := hrel
      have HI := Aside0.mk hI
      have HJ := Aside0.mk hj
      have hj6 : j ≤ 60 := by have := HK.out; omega
      obtain ⟨mo, hmo⟩ : ∃ x, (L[43]?.getD 0 : Int) = x := ⟨_, rfl⟩
      rw [hmo]
      have HMO := Aside0.mk hmo
      clear hj hI hmo
      by_cases hlt : j < k
      · have d1 : decide ((j : Int) < (k : Int)) = true := decide_eq_true (by omega)
        have hjl : j < l.length := by have := HK.out; omega
        obtain ⟨a, rfl, hcell0⟩ := HR.out j hjl
        have hcell := HI.out.cell hcell0
        obtain ⟨t, ht⟩ : ∃ t, (l[j]).1 = t := ⟨_, rfl⟩
        rw [ht] at hcell
        clear hcell0 ht
        go_upto_if 34 with fail
        obtain ⟨bb, hbb⟩ : ∃ bb : Bool, decide (0 < bits .and .i64 (j : Int) 3) = bb := ⟨_, rfl⟩
        rw [hbb]
        clear hbb
        go_cut [10] from 23 to 52 (fun v wx => ∃ t2 : Int, v = .int .i64 t2 ∧ wx = wr)
        case first =>
          cases bb with
          | false =>
            go_wp2_with fail
            go_meet
            exact ⟨_, rfl, rfl⟩
          | true =>
            go_wp2_with fail
            go_meet
            exact ⟨_, rfl, rfl⟩
        case rest =>
          obtain ⟨t2, rfl, rfl⟩ := hcut
          clear hcell t bb
          obtain ⟨cc, b, hcb, hb, f1, f2, f3, f4⟩ := bands_of t2
          have hmo := HMO.out
          have PUT := Aside0.mk (fun (w : World) (h : Holds .i64 83 w g1 L) => put_at g1 L HI.out.good.len t2 cc b 50 hb w h f1 f3 (by have := HI.out.good.le b hb; omega) (by have := HI.out.good.all; omega))
          have BAND := Aside0.mk (fun w => (cablewaylaw52_band.calls 50 t2 b w f4).mono (R' := fun r w' => r = .returned (.int .i64 (b : Int)) ∧ ∃ m, w' = w.drewN m) fun _ _ ⟨a, b⟩ => ⟨a, b.out⟩)
          have CLAMP := Aside0.mk (fun w => (cablewayref03_Clamp.calls t2 cc w f2).mono (R' := fun r w' => r = .returned (.int .i64 (cc : Int)) ∧ ∃ m, w' = w.drewN m) fun _ _ ⟨a, b⟩ => ⟨a, b.out⟩)
          clear f1 f2 f3 f4 hmo
          go_wp2_with fail
          refine (PUT.out _ HI.out.pace).mono ?_
          rintro e w1 ⟨rfl, hP, hO⟩
          have HP := Aside0.mk hP
          have HO := Aside0.mk hO
          clear hP hO PUT
          go_wp2_with fail
          refine (BAND.out _).mono ?_
          rintro e w2 ⟨rfl, n2, rfl⟩
          have hown : Holds .i64 81 (w1.drewN n2) g2 (L.take 42) := HO.out.blk (Ne.symm HI.out.ne) HI.out.own
          have c0 : (w1.drewN n2).cell? ⟨g2, b, none⟩ = some (.int .i64 (L[b]?.getD 0)) := by
            have := hown.cell (i := b) (by have := HI.out.good.len; simp; omega)
            rwa [List.getElem?_take, if_pos hb] at this
          have f0 := hown.free b
          have hle := HI.out.good.le b hb
          obtain ⟨v0, hv0⟩ : ∃ x, (L[b]?.getD 0 : Int) = x := ⟨_, rfl⟩
          rw [hv0] at c0 hle
          have hv1 : 0 ≤ v0 ∧ v0 ≤ 60 := by omega
          have HV := Aside0.mk hv0
          obtain ⟨mv, hmv⟩ : ∃ m, (if mo < (cc : Int) then (cc : Int) else mo) = m := ⟨_, rfl⟩
          have HMV := Aside0.mk hmv
          have hw0 : IntKind.i64.wrap (v0 + 1) = v0 + 1 := by rw [IntKind.wrap_i64]; omega
          clear hown hv0 hle
          obtain ⟨wb, hwb⟩ : ∃ wb, w1.drewN n2 = wb := ⟨_, rfl⟩
          rw [hwb] at c0 f0 ⊢
          have HWB := Aside0.mk hwb
          clear hwb
          go_wp2_with (first | (go_at_call 48; with_reducible refine (CLAMP.out _).mono ?_; rintro e w3 ⟨rfl, n3, rfl⟩))
          go_roundg (k - (j + 1))
          case measure => have := HJ.out; omega
          case rel =>
            refine ⟨j + 1, putL L b cc, by have := HJ.out; omega, by go_num, ?_, ?_⟩
            · have hlen := HI.out.good.len
              unfold putL
              rw [List.getElem?_set_self (by simp; omega), HMO.out, ← HMV.out]
              rfl
            · have hw := HWB.out
              exact (HI.out.put hb hcb HP.out HO.out wb (by rw [← hw]; exact below_drewN (Below.refl _ _) _) _ (by rw [HV.out])).drewN n3
      · obtain rfl : j = k := by have := HJ.out; omega
        have d1 : decide ((j : Int) < (j : Int)) = false := decide_eq_false (by omega)
        have hhx := HM.out.1
        have hhm := HM.out.2.1
        obtain ⟨jr, hjr, hlast⟩ := HI.out.good.last hm hmb
        have HL := Aside0.mk hlast
        have BEL := Aside0.mk (fun w (h : Holds .i64 83 w g1 L) => bel HI.out.good hj6 a1 hx hm HM.out.1 HM.out.2.1 hmb hjr hlast g1 w h)
        rw [HMO.out] at BEL
        clear hlast hlt
        go_wp2_with fail
        clear hhx hhm
        go_loopg [12, 13, 14] 42 (fun gg wa su bi wx => ∃ b : Nat, gg + b = 42 ∧ bi = .int .i64 (b : Int) ∧ su = .int .i64 (pre L b) ∧ wa = .int .i64 (wantAt jr mo b) ∧ Inv W g1 g2 wx L j)
        case atStart => exact ⟨0, rfl, rfl, rfl, rfl, HI.out⟩
        case round =>
          clear HI
          obtain ⟨b, hb, rfl, rfl, rfl, hI⟩ := hrel
          have HI := Aside0.mk hI
          have HB := Aside0.mk hb
          obtain ⟨pb, hpb⟩ : ∃ x, pre L b = x := ⟨_, rfl⟩
          obtain ⟨wa, hwa⟩ : ∃ x, wantAt jr mo b = x := ⟨_, rfl⟩
          have hp1 := HI.out.good.pre_le b (by omega)
          rw [hpb] at hp1 ⊢
          rw [hwa]
          have HP := Aside0.mk (And.intro hpb hwa)
          clear hb hI hpb hwa
          by_cases hb42 : b < 42
          · have d1 : decide ((b : Int) < 42) = true := decide_eq_true (by omega)
            have OF := Aside0.mk (fun w (h : Holds .i64 83 w g1 L) => of_in g1 L HI.out.good.len b hb42 w h)
            have c0 : wr.cell? ⟨g2, b, none⟩ = some (.int .i64 (L[b]?.getD 0)) := by
              have := HI.out.own.cell (i := b) (by have := HI.out.good.len; simp; omega)
              rwa [List.getElem?_take, if_pos hb42] at this
            have hle := HI.out.good.le b hb42
            obtain ⟨vb, hvb⟩ : ∃ x, (L[b]?.getD 0 : Int) = x := ⟨_, rfl⟩
            rw [hvb] at c0 hle OF
            have HVB := Aside0.mk hvb
            clear hvb
            have e1 : (vb == vb) = true := beq_self_eq_true vb
            have e2 : (vb != vb) = false := by simp
            go_wp2_with fail
            go_quiet ((first | (go_at_call 53; exact q_of (OF.out _ (HI.out.pace.drewN _)))))
            have HQ := Aside0.mk (HI.out.drewN nq)
            obtain ⟨wq, hwq⟩ : ∃ x, wr.drewN nq = x := ⟨_, rfl⟩
            rw [hwq] at HQ ⊢
            have cq : wq.cell? ⟨g2, b, none⟩ = some (.int .i64 vb) := by rw [← hwq]; exact c0
            clear hwq HI c0 OF
            have hl := HL.out b hb42
            rw [HP.out.1] at hl
            obtain ⟨pr, hpr⟩ : ∃ x, (j : Int) * hm = x := ⟨_, rfl⟩
            have hprb : 0 ≤ pr ∧ pr ≤ 6000 := by
              rw [← hpr]
              exact ⟨Int.mul_nonneg (by omega) hmb.1, Int.le_trans (Int.mul_le_mul (show (j : Int) ≤ 60 by omega) hmb.2 hmb.1 (by omega)) (by omega)⟩
            rw [hpr] at hl
            have hwb : IntKind.i64.wrap (pb * 100) = pb * 100 := by rw [IntKind.wrap_i64]; omega
            have hwp : IntKind.i64.wrap ((j : Int) * hm) = pr := by rw [hpr, IntKind.wrap_i64]; omega
            go_upto_region 19 with fail
            go_cut [80] from 56 to 96 (fun v wx => v = .bool (decide (b ≤ jr)) ∧ wq = wx)
            case first =>
              have hbb : ((b : Int) == 0) = (b == 0) := by
                rw [Bool.eq_iff_iff, beq_iff_eq, beq_iff_eq]
                omega
              rw [← hbb] at hl
              have HLL := Aside0.mk hl
              clear hl hbb
              cases d3 : decide (0 < (j : Int)) <;> cases d4 : decide (pb * 100 < pr) <;> cases d5 : ((b : Int) == 0)
              all_goals go_wp2_with fail
              all_goals go_meet
              all_goals (first | (exact ⟨by rw [← HLL.out, d3, d4, d5]; rfl, rfl⟩) | (exfalso; first | (have := of_decide_eq_false d3; omega) | (have := of_decide_eq_true d3; omega)))
            case rest =>
              obtain ⟨rfl, rfl⟩ := hcut
              obtain ⟨bb, hbb⟩ : ∃ bb, decide (b ≤ jr) = bb := ⟨_, rfl⟩
              have HBB := Aside0.mk hbb
              rw [hbb]
              clear hl hwb hwp hprb hpr hbb
              go_upto_if 80 with fail
              go_cut [12] from 56 to 96 (fun v wx => v = .int .i64 (wantAt jr mo (b + 1)) ∧ wq = wx)
              case first =>
                cases bb with
                | false =>
                  go_wp2_with fail
                  go_meet
                  exact ⟨by rw [wantAt_stay jr mo b (of_decide_eq_false HBB.out), HP.out.2], rfl⟩
                | true =>
                  go_wp2_with fail
                  go_loopg [15, 16] b (fun gg e i wx => ∃ q : Nat, gg + q = b ∧ i = .int .i64 (q : Int) ∧ e = .int .i64 (((2 ^ q : Nat) : Int) - 1) ∧ wq = wx)
                  case atStart => exact ⟨0, rfl, rfl, rfl, rfl⟩
                  case round =>
                    obtain ⟨q, hq, rfl, rfl, rfl⟩ := hrel
                    have HQ2 := Aside0.mk hq
                    obtain ⟨pw, hpw⟩ : ∃ pw, 2 ^ q = pw := ⟨_, rfl⟩
                    have hpb2 : pw ≤ 2 ^ 41 := by rw [← hpw]; exact Nat.pow_le_pow_right (by omega) (by omega)
                    have hpb3 : pw ≤ 2199023255552 := hpb2
                    have hq42 : q ≤ 42 := by omega
                    rw [hpw]
                    have HPW := Aside0.mk hpw
                    clear hpb2 hpw hq
                    by_cases hqb : q < b
                    · have d2 : decide ((q : Int) < (b : Int)) = true := decide_eq_true (by omega)
                      go_wp2_with fail
                      go_roundg (b - (q + 1))
                      case measure => have := HQ2.out; omega
                      case rel => exact ⟨q + 1, by have := HQ2.out; omega, by go_num, by rw [Nat.pow_succ, HPW.out]; go_num, rfl⟩
                    · have hqe : q = b := by have := HQ2.out; omega
                      have d2 : decide ((q : Int) < (b : Int)) = false := decide_eq_false (by omega)
                      have hpw := HPW.out
                      rw [hqe] at hpw
                      go_wp2_with fail
                      all_goals go_meet
                      all_goals exact ⟨by rw [wantAt_step jr mo b (of_decide_eq_true HBB.out), hpw]; unfold mn; first | (rw [if_pos (by omega)]) | (rw [if_neg (by omega)]), rfl⟩
              case rest =>
                obtain ⟨rfl, rfl⟩ := hcut
                go_wp2_with fail
                go_roundg (42 - (b + 1))
                case measure => have := HB.out; omega
                case rel => exact ⟨b + 1, by have := HB.out; omega, by go_num, by rw [pre, HP.out.1, HVB.out], rfl, HQ.out⟩
          · have d1 : decide ((b : Int) < 42) = false := decide_eq_false (by omega)
            obtain rfl : b = 42 := by have := HB.out; omega
            have HWA := Aside0.mk HP.out.2
            have j1 : ((j : Int) == (j : Int)) = true := beq_self_eq_true _
            have m1 : (mo == mo) = true := beq_self_eq_true _
            have LEN := Aside0.mk (fun w (h : Holds .i64 83 w g1 L) => len_at g1 L HI.out.good.len w h)
            have MOST := Aside0.mk (fun w (h : Holds .i64 83 w g1 L) => most_at g1 L HI.out.good.len w h)
            rw [HI.out.good.all] at LEN
            rw [HMO.out] at MOST
            clear HB
            go_upto_if 98 with fail
            obtain ⟨bz, hbz⟩ : ∃ x, ((j : Int) == 0) = x := ⟨_, rfl⟩
            rw [hbz]
            have HBZ := Aside0.mk hbz
            clear hbz
            go_cut [12] from 56 (fun v wx => v = .int .i64 (fin j jr mo) ∧ wr = wx)
            case first =>
              cases bz with
              | true =>
                have hj0 : j = 0 := by have := HBZ.out; rw [beq_iff_eq] at this; omega
                go_wp2_with fail
                go_meet
                exact ⟨by rw [fin, if_pos hj0], rfl⟩
              | false =>
                have hj0 : ¬ j = 0 := by have := HBZ.out; rw [beq_eq_false_iff_ne] at this; omega
                go_wp2_with fail
                go_meet
                exact ⟨by rw [fin, if_neg hj0, HWA.out], rfl⟩
            case rest =>
              obtain ⟨rfl, rfl⟩ := hcut
              obtain ⟨fv, hfv⟩ : ∃ x, fin j jr mo = x := ⟨_, rfl⟩
              rw [hfv] at BEL ⊢
              have f1 : (fv == fv) = true := beq_self_eq_true _
              clear hfv
              go_wp2_with fail
              refine (awake_calls _).mono ?_
              rintro e w3 ⟨rfl, hb3⟩
              have HI3 := Aside0.mk (HI.out.next hb3)
              clear hb3
              go_wp2_with (first
                | (go_at_call 54; with_reducible refine (LEN.out _ (HI3.out.pace.drewN _)).mono ?_; rintro e wn ⟨rfl, n1, rfl⟩)
                | (go_at_call 54; with_reducible refine (LEN.out _ HI3.out.pace).mono ?_; rintro e wn ⟨rfl, n1, rfl⟩)
                | (go_at_call 55; with_reducible refine (MOST.out _ (HI3.out.pace.drewN _)).mono ?_; rintro e wn ⟨rfl, n2, rfl⟩)
                | (go_at_call 56; with_reducible refine (BEL.out _ (HI3.out.pace.drewN _)).mono ?_; rintro e wn ⟨rfl, n3, rfl⟩)
                | (go_at_call 53; first | (with_reducible refine (of_low _ _).mono ?_; rintro e wn ⟨rfl, n4, rfl⟩) | (with_reducible refine (of_high _ _).mono ?_; rintro e wn ⟨rfl, n5, rfl⟩)))
              go_ret
              exact ⟨rfl, below_drewN HI3.out.below _⟩

theorem walk (A0 : Option Addr) (c0 : Nat) (l0 : List (Pts [.int .i64])) (a1 : Int) (W : World) (ro0 : RowsOf W [.int .i64] A0 l0) (w0 : ∀ x ∈ l0, wfs [.int .i64] x) (lc0 : l0.length ≤ c0) (cm0 : c0 ≤ maxLen) (nn0 : A0 = none → c0 = 0) (w1 : (Lit.int .i64 a1).wf = true) :
    Calls Try.prog 12 #[.slice A0 l0.length c0, .int .i64 a1] W fun e W' => e = .returned (.bool true) ∧ Below W.heap.size W W' := by
  refine core A0 l0 c0 (min l0.length 60) a1 _ _ W (by split <;> omega) (by omega) (by omega) (by unfold maxLen at cm0; omega) rfl rfl ?_ (fun i hi => ?_)
  · split <;> split <;> omega
  · obtain ⟨a, hb, h⟩ := ro0 i hi
    have h0 := h 0 (by decide)
    refine ⟨a, hb, ?_⟩
    have e : a.add (i * 1 + 0) = a.add i := by rw [Nat.mul_one, Nat.add_zero]
    rw [← e]
    exact h0

end Go.Proofs.Ytbbaonaahokidaa.walkPaceCounts
