/- The reference's window: what it counts; a window is cleared. -/
import Derived.Test.YtbbaonaahokidaaWinGood
import Derived.Test.YtbbaonaahokidaaWinP
import Derived.Test.YtbbaonaahokidaaPWindowPlaysx2
import Derived.Laws.CopyRow
import Derived.Deep.WholeRow
namespace Go.Proofs.Ytbbaonaahokidaa.WinRef
open Go.RowKit Go.Proofs.Ytbbaonaahokidaa.PWindowPlays Go.Proofs.YtbbaonaahokidaaW.PrintWords Go.Proofs.YtbbaonaahokidaaW.PrintLast Go.Proofs.YtbbaonaahokidaaW.PrintMore Go.Proofs.Ytbbaonaahokidaa.Aid Go.Proofs.Ytbbaonaahokidaa.Quiet Go.Proofs.Ytbbaonaahokidaa.Blk Go.Proofs.Ytbbaonaahokidaa.State Go.Proofs.Ytbbaonaahokidaa.Vals Go.Proofs.Ytbbaonaahokidaa.Window Go.Proofs.Ytbbaonaahokidaa.WinGood
set_option linter.unusedVariables false
set_option linter.unusedSimpArgs false

def atL (ev : List (Nat × Bool)) : List Int := ev.map fun e => (e.1 : Int)
def weL (ev : List (Nat × Bool)) : List Bool := ev.map fun e => e.2
theorem wsucc (n : Nat) (h : n ≤ 10000) : wrap64 ((n : Int) + 1) = ((n + 1 : Nat) : Int) := by
  rw [w64 _ (by omega) (by omega)]
  omega
theorem mx_nat (a b : Nat) : mx (a : Int) (b : Int) = ((max a b : Nat) : Int) := by
  unfold mx
  split <;> omega
set_option maxHeartbeats 4000000 in
theorem counts_loop (ev : List (Nat × Bool)) (B tu : Nat) (wd : Int) (hB : B ≤ 16) (htu : tu ≤ 1099511627776) (hlen : ev.length ≤ 100) (d : Nat) : ∀ (k i c0 c1 : Nat), i + d = ev.length → d < k → c0 ≤ i → c1 ≤ i →
    cablewayref16_W_Counts.l0 k (i : Int) (B : Int) wd (tu : Int) (atL ev) (weL ev) (c0 : Int) (c1 : Int) = some (((c0 + cnt B tu 0 (ev.drop i) : Nat) : Int), ((c1 + cnt B tu 1 (ev.drop i) : Nat) : Int)) := by
  induction d with
  | zero =>
    intro k i c0 c1 hi hk h0 h1
    obtain ⟨k, rfl⟩ : ∃ q, k = q + 1 := ⟨k - 1, by omega⟩
    unfold cablewayref16_W_Counts.l0
    rw [if_neg (by simp [atL]; omega), List.drop_eq_nil_of_le (by omega)]
    rfl
  | succ d ih =>
    intro k i c0 c1 hi hk h0 h1
    obtain ⟨k, rfl⟩ : ∃ q, k = q + 1 := ⟨k - 1, by omega⟩
    have hil : i < ev.length := by omega
    have z1 : i ≤ 10000 := by omega
    have z2 : c0 ≤ 10000 := by omega
    have z3 : c1 ≤ 10000 := by omega
    have z4 : -9223372036854775808 ≤ (tu : Int) - (B : Int) := by omega
    have z5 : (tu : Int) - (B : Int) ≤ 9223372036854775807 := by omega
    have p1 : (i : Int) < ((atL ev).length : Int) := by simp [atL]; omega
    have p2 : 0 ≤ (i : Int) := by omega
    have p3 : (i : Int) < ((weL ev).length : Int) := by simp [weL]; omega
    have q1 : i + 1 + d = ev.length := by omega
    have q2 : d < k := by omega
    have q3 : c0 ≤ i + 1 := by omega
    have q4 : c1 ≤ i + 1 := by omega
    have q5 : c0 + 1 ≤ i + 1 := by omega
    have q6 : c1 + 1 ≤ i + 1 := by omega
    have hle1 : ((ev[i]).1 : Int) ≤ (tu : Int) - (B : Int) → decide (tu < (ev[i]).1 + B) = false := fun h => decide_eq_false (by omega)
    have hle2 : ¬ ((ev[i]).1 : Int) ≤ (tu : Int) - (B : Int) → decide (tu < (ev[i]).1 + B) = true := fun h => decide_eq_true (by omega)
    have ih0 := ih k (i + 1) c0 c1 q1 q2 q3 q4
    have ih1 := ih k (i + 1) (c0 + 1) c1 q1 q2 q5 q4
    have ih2 := ih k (i + 1) c0 (c1 + 1) q1 q2 q3 q6
    have hd : ev.drop i = ev[i] :: ev.drop (i + 1) := List.drop_eq_getElem_cons hil
    have hc : ∀ s, cnt B tu s (ev.drop i) = cnt B tu s (ev.drop (i + 1)) + if (decide (tu < (ev[i]).1 + B) && kind s (ev[i]).2) = true then 1 else 0 := fun s => by
      rw [hd]; unfold cnt; rw [List.countP_cons]
    have h0' := hc 0
    have h1' := hc 1
    have e1 := wsucc i z1
    have e2 := wsucc c0 z2
    have e3 := wsucc c1 z3
    have e4 : wrap64 ((tu : Int) - (B : Int)) = (tu : Int) - (B : Int) := w64 _ z4 z5
    have hr : rd (atL ev) (i : Int) = ((ev[i]).1 : Int) := by simp [rd, atL, List.getD_eq_getElem?_getD, hil]
    have hq : rdOf false (weL ev) (i : Int) = (ev[i]).2 := by simp [rdOf, weL, List.getD_eq_getElem?_getD, hil]
    unfold cablewayref16_W_Counts.l0
    rw [if_pos p1, if_pos p2, hr, e4, e1, h0', h1']
    clear hc hd hr h0' h1' ih p1 p2 e1 e4
    by_cases hle : ((ev[i]).1 : Int) ≤ (tu : Int) - (B : Int)
    · rw [if_pos hle, ih0, hle1 hle]
      rfl
    · rw [if_neg hle, if_pos p3, hq, hle2 hle]
      clear hq p3
      cases (ev[i]).2
      · rw [if_neg (by decide), e3, ih2]
        have k0 : (true && kind 0 false) = false := rfl
        have k1 : (true && kind 1 false) = true := rfl
        rw [k0, k1, if_neg (by decide), if_pos rfl, Nat.add_assoc c1, Nat.add_comm 1]
        rfl
      · rw [if_pos rfl, e2, ih1]
        have k0 : (true && kind 0 true) = true := rfl
        have k1 : (true && kind 1 true) = false := rfl
        rw [k0, k1, if_pos rfl, if_neg (by decide), Nat.add_assoc c0, Nat.add_comm 1]
        rfl
theorem counts_f (ev : List (Nat × Bool)) (B tu : Nat) (wd : Int) (hB : B ≤ 16) (htu : tu ≤ 1099511627776) (hlen : ev.length ≤ 100) :
    cablewayref16_W_Counts.f 200 (B : Int) wd (tu : Int) (atL ev) (weL ev) = some ((cnt B tu 0 ev : Int), (cnt B tu 1 ev : Int)) := by
  have h := counts_loop ev B tu wd hB htu hlen ev.length 200 0 0 0 (by omega) (by omega) (by omega) (by omega)
  rw [List.drop_zero, Nat.zero_add, Nat.zero_add] at h
  exact h
theorem meet_f (B tu tn : Nat) (wd now cl : Int) (At : List Int) (We : List Bool) (hc : cablewayref03_Clamp.f now = some cl) (hwd : 1 ≤ wd) (hto : cl.tdiv wd = (tn : Int)) (hb : tn ≤ 1099511627776) :
    cablewayref16_W_Meet.f (B : Int) wd (tu : Int) At We now = some ((B : Int), wd, ((max tu tn : Nat) : Int), At, We) := by
  unfold cablewayref16_W_Meet.f
  rw [hc]
  simp only [Option.bind_some]
  rw [if_neg (by omega), hto, w64 _ (by omega) (by omega)]
  rw [mx_nat]
theorem note_f (ev : List (Nat × Bool)) (B tu tn : Nat) (wd now cl : Int) (q : Bool) (hlen : ev.length ≤ 100) (hc : cablewayref03_Clamp.f now = some cl) (hwd : 1 ≤ wd) (hto : cl.tdiv wd = (tn : Int)) (hb : tn ≤ 1099511627776) :
    cablewayref16_W_Note.f (B : Int) wd (tu : Int) (atL ev) (weL ev) now q = some ((B : Int), wd, ((max tu tn : Nat) : Int), atL (ev ++ [(max tu tn, q)]), weL (ev ++ [(max tu tn, q)])) := by
  unfold cablewayref16_W_Note.f
  rw [meet_f B tu tn wd now cl _ _ hc hwd hto hb]
  have h1 : (atL ev).length = ev.length := by simp [atL]
  have h2 : (weL ev).length = ev.length := by simp [weL]
  simp only [Option.bind_some, List.nil_append, List.length_nil, List.length_cons, h1, h2]
  rw [if_pos (by omega), if_pos (by omega), if_pos (by omega), if_pos (by omega)]
  simp [atL, weL]
theorem zeroes (m : Nat) : Builtin.zeroCells #[.int .i64 0, .int .i64 0] m = arr .i64 (List.replicate (m * 2) 0) := by
  apply Array.ext
  · simp [Builtin.zeroCells, arr_size]
  · intro i h1 h2
    have h : i % 2 = 0 ∨ i % 2 = 1 := by omega
    rcases h with h | h <;> simp [Builtin.zeroCells, arr, h]
theorem clear_run (gl B : Nat) (L : List Int) (hB : 1 ≤ B) (hL : L.length = B * 2) (w : World) (h : Holds .i64 52 w gl L) (ty : TypeId) :
    (Builtin.clear_ #[105] ty #[.slice (some ⟨gl, 0, none⟩) B B]).run Try.prog w = .ok (.tuple #[]) (w.setRow gl (arr .i64 (List.replicate (B * 2) 0))) := by
  obtain ⟨i0, hi, hz⟩ := Option.map_eq_some_iff.1 info52
  simp only [Prod.mk.injEq] at hz
  obtain ⟨b, rfl⟩ : ∃ b, B = b + 1 := ⟨B - 1, by omega⟩
  have hs := run_storeCells_at (P := Try.prog) gl 0 52 (arr .i64 (List.replicate ((b + 1) * 2) 0)).toList 0 (arr .i64 L) w h (by simp [arr, hL]) (by simp [arr]; rfl)
  have hd : ((arr .i64 L).toList.take (0 + 0) ++ (arr .i64 (List.replicate ((b + 1) * 2) 0)).toList ++ (arr .i64 L).toList.drop (0 + 0 + (arr .i64 (List.replicate ((b + 1) * 2) 0)).toList.length)).toArray = arr .i64 (List.replicate ((b + 1) * 2) 0) := by
    rw [Nat.add_zero, List.take_zero, List.nil_append, Nat.zero_add, List.drop_eq_nil_of_le (by simp [arr, hL]), List.append_nil]
  rw [hd] at hs
  have h105 := Try.underlying105
  have hzero : ∀ u : World, (zeroValue 52).run Try.prog u = .ok (.agg #[.int .i64 0, .int .i64 0]) u := fun u => by simp [zeroValue, typeInfo, hi, hz.1]
  have hc : (Value.agg #[.int .i64 0, .int .i64 0]).cells = #[.int .i64 0, .int .i64 0] := by simp [Value.cells]
  simp [Builtin.clear_, Sem.run_bind, run_underlying h105, hzero, hc, zeroes, hs, Result.andThen]
theorem setRow_hold {w : World} {g : Nat} {L L2 : List Int} (h : Holds .i64 52 w g L) : Holds .i64 52 (w.setRow g (arr .i64 L2)) g L2 := setRow_heap w g _ _ 52 (0, 0) h
theorem oi_setRow {S : List Nat} {w : World} {g : Nat} (cs : Array Value) (hg : g ∈ S) : OnlyIn S w (w.setRow g cs) :=
  ⟨rfl, rfl, rfl, by simp [World.setRow], fun k hk hn => setRow_other w g k cs (fun e => hn (e ▸ hg))⟩
set_option maxHeartbeats 2000000 in
theorem clear_at (g gl B : Nat) (wd : Int) (tu : Nat) (L : List Int) (w : World) (h : WinAt w g gl B wd tu L) :
    Calls Try.prog 29 #[.pointer (some ⟨g, 0, none⟩)] w fun r w' => r = .returned (.tuple #[]) ∧ WinAt w' g gl B wd tu (List.replicate (B * 2) 0) ∧ OnlyIn [g, gl] w w' := by
  have hcl := clear_run gl B L h.hB.1 h.len w h.cells
  have c1 : w.cell? ⟨g, 1, none⟩ = some (.slice (some ⟨gl, 0, none⟩) B B) := h.box.cell 1
  have H := Aside0.mk h
  clear h
  go_enter Try.func29, Try.ntmps29
  go_wp2_with fail
  go_end0
  refine ⟨rfl, ⟨(setRow_other _ _ _ _ H.out.ne).trans H.out.box, setRow_hold H.out.cells, by simp, H.out.ne, H.out.hB, H.out.hwd, H.out.htu⟩, oi_setRow _ (by simp)⟩
end Go.Proofs.Ytbbaonaahokidaa.WinRef
