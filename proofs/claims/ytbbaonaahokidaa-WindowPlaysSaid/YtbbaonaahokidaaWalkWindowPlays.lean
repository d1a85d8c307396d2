/- What happened lately is counted, bucket by bucket: the walk of WindowPlays. -/
import Derived.Test.YtbbaonaahokidaaWinRef
import Derived.Test.YtbbaonaahokidaaRegInv
import Derived.Test.YtbbaonaahokidaaOpen
import Derived.Deep.CutBlock
import Derived.Deep.LoopGhost
import Derived.Deep.WholeRow
import Derived.Laws.CopyOwn
namespace Go.Proofs.Ytbbaonaahokidaa.walkWindowPlays
open Go.RowKit Go.Proofs.Ytbbaonaahokidaa.PWindowPlays Go.Proofs.YtbbaonaahokidaaW.PrintWords Go.Proofs.YtbbaonaahokidaaW.PrintLast Go.Proofs.YtbbaonaahokidaaW.PrintMore Go.Proofs.Ytbbaonaahokidaa.Open Go.Proofs.Ytbbaonaahokidaa.Aid Go.Proofs.Ytbbaonaahokidaa.Quiet Go.Proofs.Ytbbaonaahokidaa.Blk Go.Proofs.Ytbbaonaahokidaa.State Go.Proofs.Ytbbaonaahokidaa.Vals Go.Proofs.Ytbbaonaahokidaa.Window Go.Proofs.Ytbbaonaahokidaa.WinGood Go.Proofs.Ytbbaonaahokidaa.WinRef
set_option linter.unusedVariables false
set_option linter.unusedSimpArgs false
attribute [local go_sem] max2_int min2_int max_two min_two

theorem wpList_store_new {P : Program} {ops : Array Oper} {rest : List Oper} {o : Oper} {a : Act} {Q : Exit → Act → World → Prop} {w : World} (hgd : o.guard = none) (ty : TypeId) (x y : Operand) (ho : o.op = .store ty x y)
    (g : Nat) (hgs : w.heap.size = g) (c cells : Array Value) (hx : a.eval x = .pointer (some ⟨g, 0, none⟩)) (hy : a.eval y = .agg cells) (hi : (P.info? ty).map (·.size) = some cells.size) (hold : c.size = cells.size) (h1 : cells.all (·.oneCell') = true)
    (h : wpList P ops Q rest (a.put o.dst undef) (w.alloc (.cells cells ty))) : wpList P ops Q (o :: rest) a (w.alloc (.cells c ty)) := by
  subst hgs
  refine wpList_store_row hgd ty x y ho _ cells hx hy ty c (heap_alloc_last w _) hi hold h1 ?_
  rw [World.setRow_alloc_new]
  exact h
def mV (B tu : Nat) (wd : Int) (v3 v4 : Value) : List Value := [.int .i64 (B : Int), .int .i64 wd, .int .i64 (tu : Int), v3, v4]
/-- The window g (with gl) and the reference's window at b8. -/
structure St (W : World) (g gl b8 B : Nat) (wd : Int) (w : World) (tu tm : Nat) (L : List Int) (evw evm : List (Nat × Bool)) (v3 v4 : Value) : Prop where
  win : WinAt w g gl B wd tu L
  good : WinGood.Good B tu L evw
  m : HoldsV 43 w b8 (mV B tm wd v3 v4)
  r3 : Kd.R (Kd.int .i64) 2 w W.heap.size (fun k => k ≠ g ∧ k ≠ gl ∧ k ≠ b8) v3 (atL evm)
  r4 : Kd.R Kd.bool 4 w W.heap.size (fun k => k ≠ g ∧ k ≠ gl ∧ k ≠ b8) v4 (weL evm)
  below : Below W.heap.size W w
  ne : g ≠ b8 ∧ gl ≠ b8 ∧ W.heap.size ≤ g ∧ W.heap.size ≤ gl ∧ W.heap.size ≤ b8
section
variable {W : World} {g gl b8 B : Nat} {wd : Int} {w w' : World} {tu tm : Nat} {L : List Int} {evw evm : List (Nat × Bool)} {v3 v4 : Value}
theorem St.next (h : St W g gl b8 B wd w tu tm L evw evm v3 v4) (hb : Below w.heap.size w w') : St W g gl b8 B wd w' tu tm L evw evm v3 v4 :=
  ⟨h.win.below' hb, h.good, h.m.below' hb, Kd.R_kept h.r3 (Kept.of_below hb (fun _ => False)) (fun _ _ hf => hf), Kd.R_kept h.r4 (Kept.of_below hb (fun _ => False)) (fun _ _ hf => hf), h.below.trans (hb.mono h.below.size), h.ne⟩
theorem Kept.of_only {S : List Nat} (h : OnlyIn S w w') : Kept w w' (fun k => k ∈ S) := ⟨h.size, fun i hi hn => h.block i hi hn⟩
/-- The window turned, or noted. -/
theorem St.turned (h : St W g gl b8 B wd w tu tm L evw evm v3 v4) {tu2 : Nat} {L2 : List Int} {ev2 : List (Nat × Bool)} (hw : WinAt w' g gl B wd tu2 L2) (hg : WinGood.Good B tu2 L2 ev2) (ho : OnlyIn [g, gl] w w') : St W g gl b8 B wd w' tu2 tm L2 ev2 evm v3 v4 := by
  have hk : ∀ k, (k ≠ g ∧ k ≠ gl ∧ k ≠ b8) → ¬ k ∈ [g, gl] := fun k hk hm => by simp at hm; omega
  have hn := h.ne
  refine ⟨hw, hg, ho.blk (by simp; omega) h.m, Kd.R_kept h.r3 (Kept.of_only ho) hk, Kd.R_kept h.r4 (Kept.of_only ho) hk, ho.below h.below (fun x hx => by simp at hx; omega) h.below.size, h.ne⟩
/-- The reference's window is another one. -/
theorem St.met (h : St W g gl b8 B wd w tu tm L evw evm v3 v4) {v3' v4' : Value} {tm2 : Nat} {ev2 : List (Nat × Bool)} (h3 : Kd.R (Kd.int .i64) 2 w' W.heap.size (fun k => (((k ≠ g ∧ k ≠ gl ∧ k ≠ b8) ∨ (k ≠ g ∧ k ≠ gl ∧ k ≠ b8)) ∨ w.heap.size ≤ k)) v3' (atL ev2))
    (h4 : Kd.R Kd.bool 4 w' W.heap.size (fun k => (((k ≠ g ∧ k ≠ gl ∧ k ≠ b8) ∨ (k ≠ g ∧ k ≠ gl ∧ k ≠ b8)) ∨ w.heap.size ≤ k)) v4' (weL ev2)) (hb : Below W.heap.size W w') (hk : Kept w w' (fun k => (k ≠ g ∧ k ≠ gl ∧ k ≠ b8) ∨ (k ≠ g ∧ k ≠ gl ∧ k ≠ b8))) :
    HoldsV 43 w' b8 (mV B tm wd v3 v4) ∧ St W g gl b8 B wd (w'.setRow b8 (mV B tm2 wd v3' v4').toArray) tu tm2 L evw ev2 v3' v4' := by
  have hn := h.ne
  have l1 := h.win.box.lt
  have l2 := h.win.cells.lt
  have l3 := h.m.lt
  have kg : HoldsV 107 w' g (winv wd gl B (tu : Int)) := (hk.2 g l1 (by omega)).trans h.win.box
  have kl : Holds .i64 52 w' gl L := (hk.2 gl l2 (by omega)).trans h.win.cells
  have km : HoldsV 43 w' b8 (mV B tm wd v3 v4) := (hk.2 b8 l3 (by omega)).trans h.m
  have hp : ∀ k, (((k ≠ g ∧ k ≠ gl ∧ k ≠ b8) ∨ (k ≠ g ∧ k ≠ gl ∧ k ≠ b8)) ∨ w.heap.size ≤ k) → (k ≠ g ∧ k ≠ gl ∧ k ≠ b8) := fun k hk => by omega
  have hset : Kept w' (w'.setRow b8 (mV B tm2 wd v3' v4').toArray) (fun k => k = b8) := ⟨by simp [World.setRow], fun i hi hn => setRow_other w' b8 i _ hn⟩
  refine ⟨km, ⟨(setRow_other w' b8 g _ hn.1).trans kg, (setRow_other w' b8 gl _ hn.2.1).trans kl, h.win.len, h.win.ne, h.win.hB, h.win.hwd, h.win.htu⟩, h.good, setRow_heap w' b8 _ _ 43 (0, 0) km, ?_, ?_, below_setRow hb hn.2.2.2.2 _, hn⟩
  · exact Kd.R_kept (Kd.R_mono h3 hp) hset (fun k hk he => hk.2.2 he)
  · exact Kd.R_kept (Kd.R_mono h4 hp) hset (fun k hk he => hk.2.2 he)
end
set_option maxHeartbeats 8000000 in
set_option maxRecDepth 100000 in
theorem refnew (b t cl wd b1 : Int) (B : Nat) (hb1 : (if b < 1 then 1 else b) = b1) (hB : (if 16 < b1 then 16 else b1) = (B : Int)) (hc : cablewayref03_Clamp.f t = some cl) (hwd : (if cl < 1 then 1 else cl) = wd) (w : World) :
    Calls Try.prog 23 #[.int .i64 b, .int .i64 t] w fun r w' => r = .returned (.agg (mV B 0 wd (.slice none 0 0) (.slice none 0 0)).toArray) ∧ Below w.heap.size w w' := by
  have KC := Aside0.mk (fun w => cablewayref03_Clamp.calls t cl w hc)
  clear hc
  have hu43 := Try.underlying43
  go_enter Try.func23, Try.ntmps23
  go_upto_region 2 with (first | (go_at_call 48; refine (KC.out _).mono ?_; rintro e w1 ⟨rfl, hb⟩; obtain ⟨n1, rfl⟩ := hb.out))
  by_cases hlt : cl < 1
  · have d1 : decide (cl < 1) = true := decide_eq_true hlt
    rw [if_pos hlt] at hwd
    subst hwd
    go_wp2_with fail
    refine bodyPost_ret (results_cell_row rfl _ _ w.heap.size 43 (mV B 0 1 (.slice none 0 0) (.slice none 0 0)).toArray (0, 0) _ rfl (heap_old ((((((show HoldsV 43 ((w.alloc (.cells #[.int .i64 0, .int .i64 0, .int .i64 0, .slice none 0 0, .slice none 0 0] 43)).drewN n1) w.heap.size [.int .i64 0, .int .i64 0, .int .i64 0, .slice none 0 0, .slice none 0 0] from heap_new _ _).set 0 _).set 1 _).set 2 _).set 3 _).set 4 _)) Try.underlying43 rfl (by kernel_rfl)) rfl ?_
    exact ⟨rfl, by repeat (first | with_reducible exact Below.refl _ _ | with_reducible apply below_drewN | (with_reducible refine Below.setCell ?_ (by first | exact Nat.le_refl _ | (simp only [World.alloc, Array.size_push]; omega) | omega) _) | (with_reducible refine Below.alloc ?_ (by first | exact Nat.le_refl _ | simp) _))⟩
  · have d1 : decide (cl < 1) = false := decide_eq_false hlt
    rw [if_neg hlt] at hwd
    subst hwd
    go_wp2_with fail
    refine bodyPost_ret (results_cell_row rfl _ _ w.heap.size 43 (mV B 0 cl (.slice none 0 0) (.slice none 0 0)).toArray (0, 0) _ rfl (heap_old ((((((show HoldsV 43 ((w.alloc (.cells #[.int .i64 0, .int .i64 0, .int .i64 0, .slice none 0 0, .slice none 0 0] 43)).drewN n1) w.heap.size [.int .i64 0, .int .i64 0, .int .i64 0, .slice none 0 0, .slice none 0 0] from heap_new _ _).set 0 _).set 1 _).set 2 _).set 3 _).set 4 _)) Try.underlying43 rfl (by kernel_rfl)) rfl ?_
    exact ⟨rfl, by repeat (first | with_reducible exact Below.refl _ _ | with_reducible apply below_drewN | (with_reducible refine Below.setCell ?_ (by first | exact Nat.le_refl _ | (simp only [World.alloc, Array.size_push]; omega) | omega) _) | (with_reducible refine Below.alloc ?_ (by first | exact Nat.le_refl _ | simp) _))⟩
structure RW (W : World) (g gl b8 B : Nat) (wd : Int) (tuA tm : Nat) (L1 LA : List Int) (ev2 : List (Nat × Bool)) (A3 : Option Addr) (k3 : Nat) (A4 : Option Addr) (k4 : Nat) (t s0 s1 : Int) (w0 : World) (D : Nat → Bool) (u73 u74 u75 u76 u77 u78 : Value) (w : World) : Prop where
  below : Below w0.heap.size w0 w
  h0 : D 0 = true → u73 = .pointer (some ⟨g, 0, none⟩)
  h1 : D 1 = true → u74 = .int .i64 t
  h2 : D 2 = true → u75 = .agg #[.int .i64 s0, .int .i64 s1]
  h3 : D 3 = true → u76 = .agg ([.int .i64 (B : Int), .int .i64 wd, .int .i64 (tm : Int), .slice A3 (atL ev2).length k3, .slice A4 (weL ev2).length k4] : List Value).toArray
  h4 : D 4 = true → u77 = .agg #[.int .i64 s0, .int .i64 s1]
  h5 : D 5 = true → u78 = .bool false
  stA : D 2 = false → St W g gl b8 B wd w tuA tm LA ev2 ev2 (.slice A3 (atL ev2).length k3) (.slice A4 (weL ev2).length k4)
  stB : D 2 = true → St W g gl b8 B wd w tm tm L1 ev2 ev2 (.slice A3 (atL ev2).length k3) (.slice A4 (weL ev2).length k4)

set_option maxHeartbeats 8000000 in
set_option maxRecDepth 100000 in
theorem core (a0 a1 : Int) (B : Nat) (cl wd b1 : Int) (A2 : Option Addr) (l : List (Pts [.bool, .bool, .int .i64, .bool])) (c : Nat) (W : World) (hB : mn (mx a0 1) 16 = (B : Int)) (hb1 : (if a0 < 1 then 1 else a0) = b1) (hB2 : (if 16 < b1 then 16 else b1) = (B : Int)) (hcl : PPaceBands.ticks_Clamp.f a1 = some cl) (hcr : cablewayref03_Clamp.f a1 = some cl)
    (hwd : mx cl 1 = wd) (hwd2 : (if cl < 1 then 1 else cl) = wd) (hwd1 : 1 ≤ wd ∧ wd ≤ 1099511627776) (hB1 : 1 ≤ B ∧ B ≤ 16) (hl : l.length ≤ 9223372036854775807)
    (TURN : ∀ t : Int, ∃ (c : Int) (T : Nat), PPaceBands.ticks_Clamp.f t = some c ∧ cablewayref03_Clamp.f t = some c ∧ (0 ≤ c ∧ c ≤ 1099511627776) ∧ c.tdiv wd = (T : Int) ∧ T ≤ 1099511627776)
    (ro : ∀ i (h : i < l.length), ∃ a, A2 = some a ∧ W.cell? (a.add (i * 4)) = some (.bool (l[i]).1) ∧ W.cell? ⟨(a.add (i * 4)).block, (a.add (i * 4)).off + 1, none⟩ = some (.bool (l[i]).2.1) ∧ W.cell? ⟨(a.add (i * 4)).block, (a.add (i * 4)).off + 2, none⟩ = some (.int .i64 (l[i]).2.2.1) ∧ W.cell? ⟨(a.add (i * 4)).block, (a.add (i * 4)).off + 3, none⟩ = some (.bool (l[i]).2.2.2.1)) :
    Calls Try.prog 5 #[.int .i64 a0, .int .i64 a1, .slice A2 l.length c] W fun e W' => e = .returned (.bool true) ∧ Below W.heap.size W W' := by
  have KN := Aside0.mk (fun w => new_calls a0 a1 B cl wd w hB hcl hwd)
  have KR := Aside0.mk (fun w => (refnew a0 a1 cl wd b1 B hb1 hB2 hcr hwd2 w : Calls Try.prog 23 #[.int .i64 a0, .int .i64 a1] w fun r w' => r = .returned (.agg #[.int .i64 (B : Int), .int .i64 wd, .int .i64 0, .slice none 0 0, .slice none 0 0]) ∧ Below w.heap.size w w'))
  have HT := Aside0.mk TURN
  have HR := Aside0.mk ro
  have HBW := Aside0.mk (And.intro hB1 hwd1)
  clear hB hb1 hB2 hcl hcr hwd hwd2 TURN ro hB1 hwd1
  have hu43 := Try.underlying43
  have hu52 := Try.underlying52
  go_enter Try.func5, Try.ntmps5
  go_wp2_with fail
  refine (KN.out _).mono ?_
  rintro e w1 ⟨g, gl, rfl, hF, hL, hne, hge, hb⟩
  have W1 := Aside0.mk (show WinAt w1 g gl B wd 0 (List.replicate (B * 2) 0) from ⟨hF, hL, by simp, hne, HBW.out.1, HBW.out.2, by omega⟩)
  have G1 := Aside0.mk hge
  have B1 := Aside0.mk hb
  clear hF hL hne hge hb
  go_wp2_with fail
  refine (KR.out _).mono ?_
  rintro e w2 ⟨rfl, hb⟩
  have W2 := Aside0.mk (W1.out.below' hb)
  have B2 := Aside0.mk (B1.out.trans (hb.mono B1.out.size))
  clear hb W1 B1
  go_upto_region 2 with (first | ((with_reducible refine gate_store (t := 43) (p := 8) (v := .tmp 18) rfl ?_); refine wpList_store_new rfl 43 (.tmp 8) (.tmp 18) rfl _ rfl _ ([.int .i64 (B : Int), .int .i64 wd, .int .i64 0, .slice none 0 0, .slice none 0 0] : List Value).toArray rfl rfl (by kernel_rfl) rfl (by kernel_rfl) ?_))
  obtain ⟨b8, hb8⟩ : ∃ x, w2.heap.size = x := ⟨_, rfl⟩
  have S2 := Aside0.mk (show St W g gl b8 B wd (w2.alloc (.cells ([.int .i64 (B : Int), .int .i64 wd, .int .i64 0, .slice none 0 0, .slice none 0 0] : List Value).toArray 43)) 0 0 (List.replicate (B * 2) 0) [] [] (.slice none 0 0) (.slice none 0 0) from by
    have l1 := W2.out.box.lt
    have l2 := W2.out.cells.lt
    exact ⟨W2.out.below' ((Below.refl _ _).alloc (Nat.le_refl _) _), WinGood.Good.zero B HBW.out.1.1, by rw [← hb8]; exact heap_new _ _, Kd.R_nil _ _ _ _ _, Kd.R_nil _ _ _ _ _, B2.out.alloc B2.out.size _, by omega, by omega, G1.out.1, G1.out.2, by rw [← hb8]; exact B2.out.size⟩)
  obtain ⟨w3, hw3⟩ : ∃ x, w2.alloc (.cells ([.int .i64 (B : Int), .int .i64 wd, .int .i64 0, .slice none 0 0, .slice none 0 0] : List Value).toArray 43) = x := ⟨_, rfl⟩
  rw [hw3] at S2 ⊢
  rw [hb8]
  clear hw3 hb8 W2 B2 G1
  go_cut [9, 10] from 13 to 18 (fun v9 v10 wx => v9 = .int .i64 0 ∧ v10 = .int .i64 0 ∧ w3 = wx)
  case first =>
    go_wp2_with fail
    go_meet
    exact ⟨rfl, rfl, rfl⟩
  case rest =>
    obtain ⟨rfl, rfl, rfl⟩ := hcut
    go_wp2_with fail
    go_loopg [9, 10] (min l.length 60) (fun gg nv i wx => ∃ (j nn tu : Nat) (L : List Int) (ev : List (Nat × Bool)) (v3 v4 : Value), gg + j = min l.length 60 ∧ i = .int .i64 (j : Int) ∧ nv = .int .i64 (nn : Int) ∧ nn ≤ 65550 * j ∧ ev.length ≤ j ∧ St W g gl b8 B wd wx tu tu L ev ev v3 v4)
    case atStart => exact ⟨0, 0, 0, _, [], _, _, rfl, rfl, rfl, Nat.le_refl _, Nat.le_refl _, S2.out⟩
    case round =>
      clear S2
      obtain ⟨j, nn, tu, L, ev, v3, v4, hj, rfl, rfl, hnn, hev, hS⟩ := hrel
      have HS := Aside0.mk hS
      have HJ := Aside0.mk (And.intro hj (And.intro hnn hev))
      have hj60 : j ≤ 60 := by omega
      have hnb : nn ≤ 4000000 := by omega
      clear hj hev hS hnn
      by_cases hlt : j < l.length ∧ j < 60
      · have hlt1 := hlt.1
        have hlt2 := hlt.2
        have d1 : decide ((j : Int) < (l.length : Int)) = true := decide_eq_true (by omega)
        have d2 : decide ((j : Int) < 60) = true := decide_eq_true (by omega)
        obtain ⟨ad, rfl, r0, r1, r2, r3⟩ := HR.out j hlt1
        have kc : ∀ p v, W.cell? p = some v → wr.cell? p = some v := fun p v h => (HS.out.below.cell (World.block_lt_of_cell? _ _ h)).trans h
        have c0 := kc _ _ r0
        have c1 := kc _ _ r1
        have c2 := kc _ _ r2
        have c3 := kc _ _ r3
        obtain ⟨lk, hlk⟩ : ∃ x, (l[j]).1 = x := ⟨_, rfl⟩
        obtain ⟨we, hwe⟩ : ∃ x, (l[j]).2.1 = x := ⟨_, rfl⟩
        obtain ⟨on, hon⟩ : ∃ x, (l[j]).2.2.1 = x := ⟨_, rfl⟩
        obtain ⟨bk, hbk⟩ : ∃ x, (l[j]).2.2.2.1 = x := ⟨_, rfl⟩
        rw [hlk] at c0
        rw [hwe] at c1
        rw [hon] at c2
        rw [hbk] at c3
        clear kc r0 r1 r2 r3 hlk hwe hon hbk hlt
        go_upto_region 6 with fail
        obtain ⟨b11, hb11⟩ : ∃ x, wr.heap.size = x := ⟨_, rfl⟩
        have H11 := Aside0.mk (show HoldsV 46 (wr.alloc (.cells #[.bool lk, .bool we, .int .i64 on, .bool bk] 46)) b11 [.bool lk, .bool we, .int .i64 on, .bool bk] by rw [← hb11]; exact heap_new _ _)
        have SA := Aside0.mk (HS.out.next ((Below.refl _ _).alloc (Nat.le_refl _) (.cells #[.bool lk, .bool we, .int .i64 on, .bool bk] 46)))
        have N11 := Aside0.mk (show b8 < b11 ∧ g < b11 ∧ gl < b11 by rw [← hb11]; exact ⟨HS.out.m.lt, HS.out.win.box.lt, HS.out.win.cells.lt⟩)
        obtain ⟨wa, hwa⟩ : ∃ x, wr.alloc (.cells #[.bool lk, .bool we, .int .i64 on, .bool bk] 46) = x := ⟨_, rfl⟩
        rw [hwa] at H11 SA ⊢
        rw [hb11]
        clear hwa hb11 HS c0 c1 c2 c3
        have c0 := H11.out.cell 0
        have c1 := H11.out.cell 1
        have c2 := H11.out.cell 2
        have c3 := H11.out.cell 3
        simp only [List.getElem?_cons_zero, List.getElem?_cons_succ] at c0 c1 c2 c3
        obtain ⟨x1, hx1, hx1b⟩ : ∃ n : Nat, Go.bits .and .i64 on 15 = (n : Int) ∧ n ≤ 15 := ⟨(on % 16).toNat, by rw [i64_and15]; omega, by omega⟩
        go_upto_if 42 with fail
        obtain ⟨tb, htb⟩ : ∃ x, (Go.bits .and .i64 (on / 16) 15 == 0) = x := ⟨_, rfl⟩
        rw [htb]
        clear htb
        go_cut [9] from 19 to 78 (fun v9 wx => ∃ n2 : Nat, v9 = .int .i64 (n2 : Int) ∧ n2 ≤ nn + 65550 ∧ wa = wx)
        case first =>
          cases tb with
          | true =>
            obtain ⟨x3, hx3, hx3b⟩ : ∃ n : Nat, Go.bits .and .i64 (on / 256) 65535 = (n : Int) ∧ n ≤ 65535 := ⟨((on / 256) % 65536).toNat, by rw [i64_and65535]; omega, by omega⟩
            go_wp2_with fail
            go_meet
            exact ⟨nn + x1 + x3, by congr 1, by omega, rfl⟩
          | false =>
            go_wp2_with fail
            go_meet
            exact ⟨nn + x1, by congr 1, by omega, rfl⟩
        case rest =>
          obtain ⟨n2, rfl, hn2, rfl⟩ := hcut
          clear hx1 hx1b
          go_upto_if 51 with fail
          go_cut [12] from 19 to 78 (fun v12 wx => ∃ t : Int, v12 = .int .i64 t ∧ wa = wx)
          case first =>
            cases bk with
            | true =>
              obtain ⟨x4, hx4, hx4b⟩ : ∃ n : Nat, Go.bits .and .i64 (on / 16) 31 = (n : Int) ∧ n ≤ 31 := ⟨((on / 16) % 32).toNat, by rw [i64_and31]; omega, by omega⟩
              go_wp2_with fail
              go_meet
              exact ⟨_, rfl, rfl⟩
            | false =>
              go_wp2_with fail
              go_meet
              exact ⟨_, rfl, rfl⟩
          case rest =>
            obtain ⟨t, rfl, rfl⟩ := hcut
            obtain ⟨cn, T, f1, f2, hcb, hT, hTb⟩ := HT.out t
            have htu := SA.out.win.htu
            have hev := HJ.out.2.2
            have MEET := Aside0.mk (fun (w : World) (hS : St W g gl b8 B wd w tu tu L ev ev v3 v4) => cablewayref16_W_Meet.calls (B : Int) wd (tu : Int) _ v3 (atL ev) _ v4 (weL ev) t _ _ _ _ _ W w hS.below hS.r3 hS.r4 (meet_f B tu T wd t cn _ _ f2 HBW.out.2.1 hT hTb))
            go_upto_if 59 with fail
            go_cut [] from 19 to 78 (fun wx => ∃ (tuA : Nat) (LA : List Int) (ev2 : List (Nat × Bool)) (v3' v4' : Value), St W g gl b8 B wd wx tuA (max tu T) LA ev2 ev2 v3' v4' ∧ max tuA T = max tu T ∧ ev2.length ≤ j + 1)
            case first =>
              cases lk with
              | true =>
                have m0 := SA.out.m.cell 0
                have m1 := SA.out.m.cell 1
                have m2 := SA.out.m.cell 2
                have m3 := SA.out.m.cell 3
                have m4 := SA.out.m.cell 4
                simp only [mV, List.getElem?_cons_zero, List.getElem?_cons_succ] at m0 m1 m2 m3 m4
                clear htu hev hcb hT hTb f1 f2 c0 c1 c2 c3
                go_wp2_with fail
                refine (MEET.out _ SA.out).mono ?_
                rintro e w5 ⟨v3', v4', rfl, h3, h4, hb, hk⟩
                obtain ⟨A3, k3, rfl, _⟩ := Kd.R_reads h3
                obtain ⟨A4, k4, rfl, _⟩ := Kd.R_reads h4
                obtain ⟨km, hs5⟩ := SA.out.met (tm2 := max tu T) (ev2 := ev) h3 h4 hb hk
                have S5 := Aside0.mk hs5
                have KM5 := Aside0.mk km
                clear h3 h4 hb hk km hs5 m0 m1 m2 m3 m4
                go_wp2_with (first | ((with_reducible refine gate_store (t := 43) (p := 8) (v := .tmp 62) rfl ?_); refine wpList_store_row rfl 43 (.tmp 8) (.tmp 62) rfl b8 ([.int .i64 (B : Int), .int .i64 wd, .int .i64 ((max tu T : Nat) : Int), .slice A3 (atL ev).length k3, .slice A4 (weL ev).length k4] : List Value).toArray rfl rfl 43 _ KM5.out (by kernel_rfl) rfl (by kernel_rfl) ?_))
                go_meet
                exact ⟨tu, L, ev, _, _, S5.out, rfl, by have := HJ.out.2.2; omega⟩
              | false =>
                have hgood := SA.out.good.turn T _ rfl
                have NOTE := Aside0.mk (fun w (h : WinAt w g gl B wd tu L) => note_at g gl B wd t cn tu T _ _ _ we L _ w h f1 hcb hT hTb rfl rfl rfl rfl (hgood.small 1000 (by omega)))
                have RNOTE := Aside0.mk (fun (w : World) (tuA : Nat) (LA : List Int) (evA : List (Nat × Bool)) (hS : St W g gl b8 B wd w tuA tu LA evA ev v3 v4) => cablewayref16_W_Note.calls (B : Int) wd (tu : Int) _ v3 (atL ev) _ v4 (weL ev) t we _ _ _ _ _ W w hS.below hS.r3 hS.r4 (note_f ev B tu T wd t cn we (by omega) f2 HBW.out.2.1 hT hTb))
                have HG := Aside0.mk (hgood.note we)
                clear htu hev hcb hT hTb f1 f2 hgood
                go_wp2_with fail
                refine (NOTE.out _ SA.out.win).mono ?_
                rintro e w4 ⟨rfl, hw4, ho4⟩
                have S4 := Aside0.mk (SA.out.turned hw4 HG.out ho4)
                have H11b := Aside0.mk (show HoldsV 46 w4 b11 [.bool false, .bool we, .int .i64 on, .bool bk] from ho4.blk (by have := N11.out; simp; omega) H11.out)
                clear hw4 ho4 c0 c1 c2 c3
                have c1 := H11b.out.cell 1
                have m0 := S4.out.m.cell 0
                have m1 := S4.out.m.cell 1
                have m2 := S4.out.m.cell 2
                have m3 := S4.out.m.cell 3
                have m4 := S4.out.m.cell 4
                simp only [mV, List.getElem?_cons_zero, List.getElem?_cons_succ] at m0 m1 m2 m3 m4 c1
                go_wp2_with fail
                refine (RNOTE.out _ _ _ _ S4.out).mono ?_
                rintro e w5 ⟨v3', v4', rfl, h3, h4, hb, hk⟩
                obtain ⟨A3, k3, rfl, _⟩ := Kd.R_reads h3
                obtain ⟨A4, k4, rfl, _⟩ := Kd.R_reads h4
                obtain ⟨km, hs5⟩ := S4.out.met (tm2 := max tu T) (ev2 := ev ++ [(max tu T, we)]) h3 h4 hb hk
                have S5 := Aside0.mk hs5
                have KM5 := Aside0.mk km
                clear h3 h4 hb hk km hs5 m0 m1 m2 m3 m4
                go_wp2_with (first | ((with_reducible refine gate_store (t := 43) (p := 8) (v := .tmp 72) rfl ?_); refine wpList_store_row rfl 43 (.tmp 8) (.tmp 72) rfl b8 ([.int .i64 (B : Int), .int .i64 wd, .int .i64 ((max tu T : Nat) : Int), .slice A3 (atL (ev ++ [(max tu T, we)])).length k3, .slice A4 (weL (ev ++ [(max tu T, we)])).length k4] : List Value).toArray rfl rfl 43 _ KM5.out (by kernel_rfl) rfl (by kernel_rfl) ?_))
                go_meet
                exact ⟨_, _, ev ++ [(max tu T, we)], _, _, S5.out, by omega, by have := HJ.out.2.2; simp; omega⟩
            case rest =>
              obtain ⟨tuA, LA, ev2, v3', v4', hst, hmx, hev2⟩ := hcut
              obtain ⟨A3, k3, rfl, _⟩ := Kd.R_reads hst.r3
              obtain ⟨A4, k4, rfl, _⟩ := Kd.R_reads hst.r4
              clear SA H11 N11 c0 c1 c2 c3 htu hev MEET
              obtain ⟨tm, htm⟩ : ∃ x, max tu T = x := ⟨_, rfl⟩
              rw [htm] at hst hmx
              have hg1 := hst.good.turn T _ rfl
              rw [hmx] at hg1
              obtain ⟨L1, hL1⟩ : ∃ x, clrs B (if tuA + B ≤ T then T - B else tuA) (T - (if tuA + B ≤ T then T - B else tuA)) LA = x := ⟨_, rfl⟩
              rw [hL1] at hg1
              have hsm := hg1.small 1000 (by omega)
              obtain ⟨s0, hs0⟩ : ∃ x : Int, (cnt B tm 0 ev2 : Int) = x := ⟨_, rfl⟩
              obtain ⟨s1, hs1⟩ : ∃ x : Int, (cnt B tm 1 ev2 : Int) = x := ⟨_, rfl⟩
              have CNT := Aside0.mk (fun w (h : WinAt w g gl B wd tuA LA) => (show Calls Try.prog 27 #[.pointer (some ⟨g, 0, none⟩), .int .i64 t] w fun r w' => r = .returned (.agg #[.int .i64 s0, .int .i64 s1]) ∧ WinAt w' g gl B wd tm L1 ∧ OnlyIn [g, gl] w w' by
                have hh := counts_at g gl B wd t cn tuA T _ tm LA L1 w h f1 hcb hT hTb rfl hmx hL1 hsm
                rw [hg1.total 0 (by omega), hg1.total 1 (by omega), hs0, hs1] at hh
                exact hh))
              have htmb := hst.win.htu
              have htm2 : tm ≤ 1099511627776 := by have := hst.win.htu; omega
              have RCNT := Aside0.mk (fun (w : World) (A3 : Option Addr) (k3 : Nat) (A4 : Option Addr) (k4 : Nat) (h3 : Kd.C (Kd.int .i64) w A3 (atL ev2).length (atL ev2)) (l3 : (atL ev2).length ≤ k3) (h4 : Kd.C Kd.bool w A4 (weL ev2).length (weL ev2)) (l4 : (weL ev2).length ≤ k4) => (show Calls Try.prog 28 #[.agg #[.int .i64 (B : Int), .int .i64 wd, .int .i64 (tm : Int), .slice A3 (atL ev2).length k3, .slice A4 (weL ev2).length k4]] w fun e w' => e = .returned (.agg #[.int .i64 s0, .int .i64 s1]) ∧ Below w.heap.size w w' from
                cablewayref16_W_Counts.calls 200 (B : Int) wd (tm : Int) A3 k3 (atL ev2) A4 k4 (weL ev2) s0 s1 w h3 l3 h4 l4 (by rw [counts_f ev2 B tm wd HBW.out.1.2 htm2 (by omega), hs0, hs1])))
              have HG1 := Aside0.mk hg1
              have HST := Aside0.mk hst
              have HQ := Aside0.mk (And.intro (beq_self_eq_true s0) (beq_self_eq_true s1))
              have HE2 := Aside0.mk hev2
              clear hcb hT hTb f1 f2 hg1 hst hsm hL1 htmb htm2 hs0 hs1 hmx htm hev2
              go_upto_region 16 with fail
              go_cut [78] from 73 to 78 (fun v78 wx => v78 = .bool false ∧ St W g gl b8 B wd wx tm tm L1 ev2 ev2 (.slice A3 (atL ev2).length k3) (.slice A4 (weL ev2).length k4))
              case first =>
                refine RegInv.wp_region_steps (I := fun D a w => ∃ u73 u74 u75 u76 u77 u78, a = ⟨(.int .i64 a0 :: .int .i64 a1 :: .slice (some ad) l.length c :: undef :: undef :: undef :: u6 :: .pointer (some ⟨g, 0, none⟩) :: .pointer (some ⟨b8, 0, none⟩) :: .int .i64 (n2 : Int) :: .int .i64 (j : Int) :: .pointer (some ⟨b11, 0, none⟩) :: .int .i64 t :: u13 :: u14 :: u15 :: u16 :: u17 :: u18 :: u19 :: u20 :: u21 :: u22 :: u23 :: u24 :: u25 :: u26 :: u27 :: u28 :: u29 :: u30 :: u31 :: u32 :: u33 :: u34 :: u35 :: u36 :: u37 :: u38 :: u39 :: u40 :: u41 :: u42 :: u43 :: u44 :: u45 :: u46 :: u47 :: u48 :: u49 :: u50 :: u51 :: u52 :: u53 :: u54 :: u55 :: u56 :: u57 :: u58 :: u59 :: u60 :: u61 :: u62 :: u63 :: u64 :: u65 :: u66 :: u67 :: u68 :: u69 :: u70 :: u71 :: u72 :: u73 :: u74 :: u75 :: u76 :: u77 :: u78 :: undef :: undef :: undef :: undef :: undef :: undef :: undef :: undef :: undef :: undef :: []).toArray, []⟩ ∧ RW W g gl b8 B wd tuA tm L1 LA ev2 A3 k3 A4 k4 t s0 s1 W D u73 u74 u75 u76 u77 u78 w) (by kernel_rfl) (by kernel_rfl) ?_ ?_ ?_
                · exact ⟨_, _, _, _, _, _, rfl, ⟨HST.out.below.drew, fun h => (by cases h), fun h => (by cases h), fun h => (by cases h), fun h => (by cases h), fun h => (by cases h), fun h => (by cases h), fun _ => HST.out.next ((Below.refl _ _).drew), fun h => (by cases h)⟩⟩
                · rintro D a w ⟨u73, u74, u75, u76, u77, u78, rfl, hR⟩ hall
                  obtain rfl := hR.h0 (hall 0 (by decide))
                  obtain rfl := hR.h1 (hall 1 (by decide))
                  obtain rfl := hR.h2 (hall 2 (by decide))
                  obtain rfl := hR.h3 (hall 3 (by decide))
                  obtain rfl := hR.h4 (hall 4 (by decide))
                  obtain rfl := hR.h5 (hall 5 (by decide))
                  have hs := hR.stB (hall 2 (by decide))
                  go_wp2_with fail
                  go_meet
                  exact ⟨rfl, hs⟩
                · refine RegInv.Steps.cons (fun D a w hI hD hdep K hK => ?_) ?_
                  · obtain ⟨u73, u74, u75, u76, u77, u78, rfl, hR⟩ := hI
                    rw [if_pos (by rfl)]
                    go_simp
                    exact hK.out _ _ ⟨_, _, _, _, _, _, rfl, ⟨hR.below, fun _ => rfl, hR.h1, hR.h2, hR.h3, hR.h4, hR.h5, hR.stA, hR.stB⟩⟩
                  refine RegInv.Steps.cons (fun D a w hI hD hdep K hK => ?_) ?_
                  · obtain ⟨u73, u74, u75, u76, u77, u78, rfl, hR⟩ := hI
                    rw [if_pos (by rfl)]
                    go_simp
                    exact hK.out _ _ ⟨_, _, _, _, _, _, rfl, ⟨hR.below, hR.h0, fun _ => rfl, hR.h2, hR.h3, hR.h4, hR.h5, hR.stA, hR.stB⟩⟩
                  refine RegInv.Steps.cons (fun D a w hI hD hdep K hK => ?_) ?_
                  · obtain ⟨u73, u74, u75, u76, u77, u78, rfl, hR⟩ := hI
                    have d0 : D 0 = true := hdep ⟨0, .data⟩ (by simp) rfl
                    obtain rfl := hR.h0 d0
                    have d1 : D 1 = true := hdep ⟨1, .data⟩ (by simp) rfl
                    obtain rfl := hR.h1 d1
                    have hsA := hR.stA hD
                    rw [if_pos (by rfl)]
                    go_simp
                    refine (CNT.out _ hsA.win).mono ?_
                    rintro e w9 ⟨rfl, hw9, ho9⟩
                    have hs9 := hsA.turned hw9 HG1.out ho9
                    exact hK.out _ _ ⟨_, _, _, _, _, _, rfl, ⟨hs9.below, hR.h0, hR.h1, fun _ => rfl, hR.h3, hR.h4, hR.h5, fun h => absurd h (by rw [RegInv.upd_at]; decide), fun _ => hs9⟩⟩
                  refine RegInv.Steps.cons (fun D a w hI hD hdep K hK => ?_) ?_
                  · obtain ⟨u73, u74, u75, u76, u77, u78, rfl, hR⟩ := hI
                    have hm : St W g gl b8 B wd w (if D 2 = true then tm else tuA) tm (if D 2 = true then L1 else LA) ev2 ev2 (.slice A3 (atL ev2).length k3) (.slice A4 (weL ev2).length k4) := by
                      cases h2 : D 2 with
                      | true => exact hR.stB h2
                      | false => exact hR.stA h2
                    rw [if_pos (by rfl)]
                    refine wp_load_row 43 (.tmp 8) rfl b8 rfl 43 _ (0, 0) _ hm.m Try.underlying43 rfl (by kernel_rfl) ?_
                    exact hK.out _ _ ⟨_, _, _, _, _, _, rfl, ⟨hR.below, hR.h0, hR.h1, hR.h2, fun _ => rfl, hR.h4, hR.h5, hR.stA, hR.stB⟩⟩
                  refine RegInv.Steps.cons (fun D a w hI hD hdep K hK => ?_) ?_
                  · obtain ⟨u73, u74, u75, u76, u77, u78, rfl, hR⟩ := hI
                    have d3 : D 3 = true := hdep ⟨3, .data⟩ (by simp) rfl
                    obtain rfl := hR.h3 d3
                    have hm : St W g gl b8 B wd w (if D 2 = true then tm else tuA) tm (if D 2 = true then L1 else LA) ev2 ev2 (.slice A3 (atL ev2).length k3) (.slice A4 (weL ev2).length k4) := by
                      cases h2 : D 2 with
                      | true => exact hR.stB h2
                      | false => exact hR.stA h2
                    obtain ⟨A3x, c3x, e3, hl3, hc3⟩ := Kd.R_reads hm.r3
                    obtain ⟨A4x, c4x, e4, hl4, hc4⟩ := Kd.R_reads hm.r4
                    injection e3 with e31 e32 e33
                    injection e4 with e41 e42 e43
                    subst e31 e33 e41 e43
                    rw [if_pos (by rfl)]
                    go_simp
                    refine (RCNT.out _ _ _ _ _ hc3 hl3 hc4 hl4).mono ?_
                    rintro e w9 ⟨rfl, hb9⟩
                    exact hK.out _ _ ⟨_, _, _, _, _, _, rfl, ⟨hR.below.trans (hb9.mono hR.below.size), hR.h0, hR.h1, hR.h2, hR.h3, fun _ => rfl, hR.h5, fun h => (hR.stA h).next hb9, fun h => (hR.stB h).next hb9⟩⟩
                  refine RegInv.Steps.cons (fun D a w hI hD hdep K hK => ?_) ?_
                  · obtain ⟨u73, u74, u75, u76, u77, u78, rfl, hR⟩ := hI
                    have d2 : D 2 = true := hdep ⟨2, .data⟩ (by simp) rfl
                    obtain rfl := hR.h2 d2
                    have d4 : D 4 = true := hdep ⟨4, .data⟩ (by simp) rfl
                    obtain rfl := hR.h4 d4
                    have q0 := HQ.out.1
                    have q1 := HQ.out.2
                    rw [if_pos (by rfl)]
                    go_simp
                    exact hK.out _ _ ⟨_, _, _, _, _, _, rfl, ⟨hR.below, hR.h0, hR.h1, hR.h2, hR.h3, hR.h4, fun _ => rfl, hR.stA, hR.stB⟩⟩
                  exact RegInv.Steps.nil
              case rest =>
                obtain ⟨rfl, hs⟩ := hcut
                go_wp2_with fail
                go_roundg (min l.length 60 - (j + 1))
                case measure => have := HJ.out.1; omega
                case rel => exact ⟨j + 1, n2, tm, L1, ev2, _, _, by have := HJ.out.1; omega, by go_num, rfl, by have := HJ.out.2.1; omega, HE2.out, hs⟩
      · obtain ⟨cn, T, f1, f2, hcb, hT, hTb⟩ := HT.out (nn : Int)
        have CLR := Aside0.mk (clear_at g gl B wd tu L wr HS.out.win)
        have CNT := Aside0.mk (fun w (h : WinAt w g gl B wd tu (List.replicate (B * 2) 0)) => (show Calls Try.prog 27 #[.pointer (some ⟨g, 0, none⟩), .int .i64 (nn : Int)] w fun r w' => r = .returned (.agg #[.int .i64 0, .int .i64 0]) ∧ WinAt w' g gl B wd (max tu T) (List.replicate (B * 2) 0) ∧ OnlyIn [g, gl] w w' by
          have hh := counts_at g gl B wd nn cn tu T _ (max tu T) (List.replicate (B * 2) 0) (List.replicate (B * 2) 0) w h f1 hcb hT hTb rfl rfl (clrs_zeros _ _ _ _) ((Small.zeros _).mono (by omega))
          rw [sumAt_zeros, sumAt_zeros] at hh
          exact hh))
        have SN := HS.out.ne
        have SB := Aside0.mk HS.out.below
        have LG := Aside0.mk (And.intro HS.out.win.box.lt HS.out.win.cells.lt)
        have HSN := Aside0.mk (show ∀ x ∈ [g, gl], W.heap.size ≤ x from fun x hx => by simp at hx; omega)
        clear HS hcb hT hTb f1 f2 SN hnb
        by_cases hjl : j < l.length
        · have d1 : decide ((j : Int) < (l.length : Int)) = true := decide_eq_true (by omega)
          have d2 : decide ((j : Int) < 60) = false := decide_eq_false (by omega)
          have hj60' : ¬ j < 60 := by omega
          clear hlt
          go_wp2_with fail
          refine CLR.out.mono ?_
          rintro e wc ⟨rfl, hwc, hoc⟩
          have WC := Aside0.mk hwc
          have BC := Aside0.mk (hoc.below SB.out HSN.out SB.out.size)
          clear hwc hoc
          go_wp2_with fail
          refine (awake_calls _).mono ?_
          rintro e wd' ⟨rfl, hb⟩
          have WD := Aside0.mk (WC.out.below' hb)
          have BD := Aside0.mk (BC.out.trans (hb.mono BC.out.size))
          clear hb
          go_wp2_with fail
          refine (CNT.out _ WD.out).mono ?_
          rintro e we' ⟨rfl, hwe, hoe⟩
          have BE := Aside0.mk (hoe.below BD.out HSN.out BD.out.size)
          clear hwe hoe
          go_wp2_with fail
          go_ret
          exact ⟨rfl, BE.out⟩
        · have d1 : decide ((j : Int) < (l.length : Int)) = false := decide_eq_false (by omega)
          clear hlt
          go_wp2_with fail
          refine CLR.out.mono ?_
          rintro e wc ⟨rfl, hwc, hoc⟩
          have WC := Aside0.mk hwc
          have BC := Aside0.mk (hoc.below SB.out HSN.out SB.out.size)
          clear hwc hoc
          go_wp2_with fail
          refine (awake_calls _).mono ?_
          rintro e wd' ⟨rfl, hb⟩
          have WD := Aside0.mk (WC.out.below' hb)
          have BD := Aside0.mk (BC.out.trans (hb.mono BC.out.size))
          clear hb
          go_wp2_with fail
          refine (CNT.out _ WD.out).mono ?_
          rintro e we' ⟨rfl, hwe, hoe⟩
          have BE := Aside0.mk (hoe.below BD.out HSN.out BD.out.size)
          clear hwe hoe
          go_wp2_with fail
          go_ret
          exact ⟨rfl, BE.out⟩

theorem clamps (z : Int) : ∃ c, PPaceBands.ticks_Clamp.f z = some c ∧ cablewayref03_Clamp.f z = some c ∧ (0 ≤ c ∧ c ≤ 1099511627776) := by
  refine ⟨mn (mx z 0) 1099511627776, rfl, ?_, by unfold mn mx; split <;> split <;> omega⟩
  unfold cablewayref03_Clamp.f mn mx
  by_cases h1 : z < 0
  · rw [if_pos h1, if_pos h1, if_neg (by omega)]
  · rw [if_neg h1, if_neg h1]
    by_cases h2 : z > 1099511627776
    · rw [if_pos h2, if_pos h2]
    · rw [if_neg h2, if_neg h2]
theorem walk (a0 : Int) (a1 : Int) (A2 : Option Addr) (c2 : Nat) (l2 : List (Pts [.bool, .bool, .int .i64, .bool])) (W : World) (w0 : (Lit.int .i64 a0).wf = true) (w1 : (Lit.int .i64 a1).wf = true) (ro2 : RowsOf W [.bool, .bool, .int .i64, .bool] A2 l2) (w2 : ∀ x ∈ l2, wfs [.bool, .bool, .int .i64, .bool] x) (lc2 : l2.length ≤ c2) (cm2 : c2 ≤ maxLen) (nn2 : A2 = none → c2 = 0) :
    Calls Try.prog 5 #[.int .i64 a0, .int .i64 a1, .slice A2 l2.length c2] W fun e W' => e = .returned (.bool true) ∧ Below W.heap.size W W' := by
  have hb : 1 ≤ mn (mx a0 1) 16 ∧ mn (mx a0 1) 16 ≤ 16 := by unfold mn mx; split <;> split <;> omega
  obtain ⟨B, hB⟩ := Int.eq_ofNat_of_zero_le (show 0 ≤ mn (mx a0 1) 16 by omega)
  obtain ⟨cl, hcl, hcr, hcb⟩ := clamps a1
  have hwd : 1 ≤ mx cl 1 ∧ mx cl 1 ≤ 1099511627776 := by unfold mx; split <;> omega
  refine core a0 a1 B cl (mx cl 1) _ A2 l2 c2 W hB rfl ?_ hcl hcr rfl rfl hwd (by omega) (by unfold maxLen at cm2; omega) (fun t => ?_) (fun i hi => ?_)
  · rw [← hB]; rfl
  · obtain ⟨c, h1, h2, h3⟩ := clamps t
    have h0 : c.tdiv (mx cl 1) = c / mx cl 1 := Int.tdiv_eq_ediv_of_nonneg h3.1
    have h4 : 0 ≤ c / mx cl 1 := Int.ediv_nonneg h3.1 (by omega)
    have h5 : c / mx cl 1 ≤ c := Int.ediv_le_self _ h3.1
    exact ⟨c, (c / mx cl 1).toNat, h1, h2, h3, by omega, by omega⟩
  · obtain ⟨ad, hA, h⟩ := ro2 i hi
    have h0 := h 0 (by decide)
    have h1 := h 1 (by decide)
    have h2 := h 2 (by decide)
    have h3 := h 3 (by decide)
    have e : ∀ n, 0 < n → (⟨(ad.add (i * 4)).block, (ad.add (i * 4)).off + n, none⟩ : Addr) = ad.add (i * 4 + n) := fun n hn => by
      rw [← Open.add_add ad (i * 4) n]
      unfold Addr.add
      rw [if_neg (show ¬ n = 0 by omega)]
    refine ⟨ad, hA, h0, ?_, ?_, ?_⟩
    · rw [e 1 (by omega)]; exact h1
    · rw [e 2 (by omega)]; exact h2
    · rw [e 3 (by omega)]; exact h3
end Go.Proofs.Ytbbaonaahokidaa.walkWindowPlays
