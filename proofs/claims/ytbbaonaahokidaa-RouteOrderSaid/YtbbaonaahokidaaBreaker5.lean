/- A breaker: at time 0; its own small trial. -/
import Derived.Test.YtbbaonaahokidaaBreaker4
namespace Go.Proofs.Ytbbaonaahokidaa.Breaker
open Go.RowKit Go.Proofs.YtbbaonaahokidaaW.PrintWords Go.Proofs.YtbbaonaahokidaaW.PrintLast Go.Proofs.YtbbaonaahokidaaW.PrintMore Go.Proofs.Ytbbaonaahokidaa.Aid Go.Proofs.Ytbbaonaahokidaa.Quiet Go.Proofs.Ytbbaonaahokidaa.Blk Go.Proofs.Ytbbaonaahokidaa.State Go.Proofs.Ytbbaonaahokidaa.Vals Go.Proofs.Ytbbaonaahokidaa.Window Go.Proofs.Ytbbaonaahokidaa.WinRef
set_option linter.unusedVariables false
set_option linter.unusedSimpArgs false

/-- What a window counts of which all happened in the first bucket. -/
def L0 (B : Nat) (a b : Int) : List Int := a :: b :: List.replicate ((B - 1) * 2) 0
theorem L0_zero (B : Nat) (hB : 1 ≤ B) : List.replicate (B * 2) (0 : Int) = L0 B 0 0 := by
  obtain ⟨c, rfl⟩ : ∃ c, B = c + 1 := ⟨B - 1, by omega⟩
  show List.replicate ((c + 1) * 2) (0 : Int) = 0 :: 0 :: List.replicate (c * 2) 0
  rw [show (c + 1) * 2 = c * 2 + 1 + 1 by omega]
  rfl
theorem L0_small (B : Nat) (a b : Int) (ha : 0 ≤ a ∧ a ≤ 1000) (hb : 0 ≤ b ∧ b ≤ 1000) : Small 1000 (L0 B a b) := fun i => by
  match i with
  | 0 => simpa [L0] using ha
  | 1 => simpa [L0] using hb
  | i + 2 =>
    simp only [L0, List.getElem?_cons_succ, List.getElem?_replicate]
    split <;> simp
theorem L0_sum (B : Nat) (a b : Int) : ∀ n, sumAt (L0 B a b) 0 (n + 1) = a ∧ sumAt (L0 B a b) 1 (n + 1) = b
  | 0 => by simp [sumAt, L0]
  | n + 1 => by
    have h := L0_sum B a b n
    have z : ∀ s, ((L0 B a b)[(n + 1) * 2 + s]?.getD 0 : Int) = 0 := fun s => by
      rw [show (n + 1) * 2 + s = n * 2 + s + 1 + 1 by omega]
      simp only [L0, List.getElem?_cons_succ, List.getElem?_replicate]
      split <;> simp
    constructor
    · rw [sumAt, h.1, z]; omega
    · rw [sumAt, h.2, z]; omega
theorem note0 (g gl B : Nat) (wd a b a2 b2 : Int) (q : Bool) (ha : 0 ≤ a ∧ a ≤ 1000) (hb : 0 ≤ b ∧ b ≤ 1000) (h2 : a2 = (if q then a + 1 else a) ∧ b2 = (if q then b else b + 1)) (w : World) (h : WinAt w g gl B wd 0 (L0 B a b)) :
    Calls Try.prog 25 #[.pointer (some ⟨g, 0, none⟩), .int .i64 0, .bool q] w fun r w' => r = .returned (.tuple #[]) ∧ WinAt w' g gl B wd 0 (L0 B a2 b2) ∧ OnlyIn [g, gl] w w' := by
  have hBp := h.hB
  have e : (0 : Nat) = if 0 + B ≤ 0 then 0 - B else 0 := by rw [if_neg (by omega)]
  have hh := note_at g gl B wd 0 0 0 0 0 0 0 q (L0 B a b) (L0 B a b) w h (by kernel_rfl) (by omega) (by rw [Int.zero_tdiv]; rfl) (by omega) e rfl (Nat.zero_mod B) rfl (L0_small B a b ha hb)
  have eb : bump (L0 B a b) (0 * 2 + (if q then 0 else 1)) = L0 B a2 b2 := by
    cases q <;> simp [bump, L0, h2.1, h2.2]
  rw [eb] at hh
  exact hh
theorem counts0 (g gl B : Nat) (wd a b : Int) (ha : 0 ≤ a ∧ a ≤ 1000) (hb : 0 ≤ b ∧ b ≤ 1000) (w : World) (h : WinAt w g gl B wd 0 (L0 B a b)) :
    Calls Try.prog 27 #[.pointer (some ⟨g, 0, none⟩), .int .i64 0] w fun r w' => r = .returned (.agg #[.int .i64 a, .int .i64 b]) ∧ WinAt w' g gl B wd 0 (L0 B a b) ∧ OnlyIn [g, gl] w w' := by
  have hBp := h.hB
  have e : (0 : Nat) = if 0 + B ≤ 0 then 0 - B else 0 := by rw [if_neg (by omega)]
  have hh := counts_at g gl B wd 0 0 0 0 0 0 (L0 B a b) (L0 B a b) w h (by kernel_rfl) (by omega) (by rw [Int.zero_tdiv]; rfl) (by omega) e rfl rfl (L0_small B a b ha hb)
  obtain ⟨c, hc⟩ : ∃ c, B = c + 1 := ⟨B - 1, by omega⟩
  have hs := L0_sum B a b c
  rw [← hc] at hs
  rw [hs.1, hs.2] at hh
  exact hh
/-- A shut one notes at time 0. -/
theorem note_calm (br g gl B : Nat) (nb wt least part cool trials un tr ou wd a b a2 b2 : Int) (q : Bool) (w : World) (h : Br w br g gl B nb wt least part cool trials wd 0 un tr ou 0 (L0 B a b))
    (ha : 0 ≤ a ∧ a ≤ 999) (hb : 0 ≤ b ∧ b ≤ 999) (h2 : a2 = (if q then a + 1 else a) ∧ b2 = (if q then b else b + 1)) (hp : 0 ≤ part ∧ part ≤ 100) (hw : (decide (least ≤ a2 + b2) && decide ((a2 + b2) * part ≤ b2 * 100)) = false) :
    Calls Try.prog 44 #[.pointer (some ⟨br, 0, none⟩), .int .i64 0, .bool q] w (Left w br g gl B nb wt least part cool trials wd 0 un tr ou 0 (L0 B a2 b2) (.tuple #[])) := by
  have h3 : 0 ≤ a2 ∧ a2 ≤ 1000 := by rw [h2.1]; split <;> omega
  have h4 : 0 ≤ b2 ∧ b2 ≤ 1000 := by rw [h2.2]; split <;> omega
  refine (note_shut br g gl B nb wt least part cool trials un tr ou wd 0 a2 b2 0 0 q (L0 B a b) (L0 B a2 b2) w h.h h.win h.ne (fun w hw => note0 g gl B wd a b a2 b2 q (by omega) (by omega) h2 w hw) (fun w hw => counts0 g gl B wd a2 b2 h3 h4 w hw) h3 h4 hp hw).mono ?_
  rintro r w' ⟨h5, h6, h7, h8⟩
  exact ⟨h5, ⟨h6, h7, h.ne⟩, only_sub h8 (by intro x hx; simp at hx ⊢; omega)⟩
/-- A shut one notes at time 0 what opens it. -/
theorem note_worse (br g gl B : Nat) (nb wt least part cool trials un tr ou wd a b a2 b2 un2 : Int) (q : Bool) (w : World) (h : Br w br g gl B nb wt least part cool trials wd 0 un tr ou 0 (L0 B a b))
    (ha : 0 ≤ a ∧ a ≤ 999) (hb : 0 ≤ b ∧ b ≤ 999) (h2 : a2 = (if q then a + 1 else a) ∧ b2 = (if q then b else b + 1)) (hp : 0 ≤ part ∧ part ≤ 100) (hw : (decide (least ≤ a2 + b2) && decide ((a2 + b2) * part ≤ b2 * 100)) = true) (hf : PBreakerHeals.ticks_After.f 0 cool = some un2) :
    Calls Try.prog 44 #[.pointer (some ⟨br, 0, none⟩), .int .i64 0, .bool q] w (Left w br g gl B nb wt least part cool trials wd 1 un2 0 0 0 (L0 B 0 0) (.tuple #[])) := by
  have h3 : 0 ≤ a2 ∧ a2 ≤ 1000 := by rw [h2.1]; split <;> omega
  have h4 : 0 ≤ b2 ∧ b2 ≤ 1000 := by rw [h2.2]; split <;> omega
  have hh := note_opens br g gl B nb wt least part cool trials un tr ou wd 0 a2 b2 un2 0 0 q (L0 B a b) (L0 B a2 b2) w h (fun w hw => note0 g gl B wd a b a2 b2 q (by omega) (by omega) h2 w hw) (fun w hw => counts0 g gl B wd a2 b2 h3 h4 w hw) h3 h4 hp hw hf
  rw [L0_zero B h.win.hB.1] at hh
  exact hh
section
variable {w w' : World} {br g gl B : Nat} {nb wt least part cool trials wd : Int} {st un tr ou : Int} {tu : Nat} {L : List Int}
/-- How it stands, of a shut one. -/
theorem Br.st0 (h : Br w br g gl B nb wt least part cool trials wd 0 un tr ou tu L) (now : Int) :
    Calls Try.prog 42 #[.pointer (some ⟨br, 0, none⟩), .int .i64 now] w (Left w br g gl B nb wt least part cool trials wd 0 un tr ou tu L (.int .i64 0)) :=
  (state_shut br g nb wt least part cool trials un tr ou now w h.h).mono (by rintro r w' ⟨h1, m, rfl⟩; exact ⟨h1, h.below' (below_drewN (Below.refl _ _) m), OnlyIn.of_below (below_drewN (Below.refl _ _) m)⟩)
theorem Br.may0 (h : Br w br g gl B nb wt least part cool trials wd 0 un tr ou tu L) (now : Int) :
    Calls Try.prog 43 #[.pointer (some ⟨br, 0, none⟩), .int .i64 now] w (Left w br g gl B nb wt least part cool trials wd 0 un tr ou tu L (.bool true)) :=
  (may_shut br g nb wt least part cool trials un tr ou now w h.h).mono (by rintro r w' ⟨h1, m, rfl⟩; exact ⟨h1, h.below' (below_drewN (Below.refl _ _) m), OnlyIn.of_below (below_drewN (Below.refl _ _) m)⟩)
theorem Br.lift {v : Value} {f : Nat} {args : Array Value} {st2 un2 tr2 ou2 : Int} (h : Br w br g gl B nb wt least part cool trials wd st un tr ou tu L)
    (hc : Calls Try.prog f args w fun r w' => r = .returned v ∧ HoldsV 115 w' br (brV nb wt least part cool trials g st2 un2 tr2 ou2) ∧ OnlyIn [br] w w') : Calls Try.prog f args w (Left w br g gl B nb wt least part cool trials wd st2 un2 tr2 ou2 tu L v) :=
  hc.mono (by rintro r w' ⟨h1, h2, h3⟩; exact ⟨h1, h.own h2 h3, only_sub h3 (by simp)⟩)
theorem Br.st1 (h : Br w br g gl B nb wt least part cool trials wd 1 un tr ou tu L) (now : Int) (hp : PBreakerHeals.ticks_Past.f now un = some false) :
    Calls Try.prog 42 #[.pointer (some ⟨br, 0, none⟩), .int .i64 now] w (Left w br g gl B nb wt least part cool trials wd 1 un tr ou tu L (.int .i64 1)) := h.lift (state_open br g nb wt least part cool trials un tr ou now w h.h hp)
theorem Br.st12 (h : Br w br g gl B nb wt least part cool trials wd 1 un tr ou tu L) (now : Int) (hp : PBreakerHeals.ticks_Past.f now un = some true) :
    Calls Try.prog 42 #[.pointer (some ⟨br, 0, none⟩), .int .i64 now] w (Left w br g gl B nb wt least part cool trials wd 2 un trials 0 tu L (.int .i64 2)) := h.lift (state_turn br g nb wt least part cool trials un tr ou now w h.h hp)
theorem Br.st2 (h : Br w br g gl B nb wt least part cool trials wd 2 un tr ou tu L) (now : Int) :
    Calls Try.prog 42 #[.pointer (some ⟨br, 0, none⟩), .int .i64 now] w (Left w br g gl B nb wt least part cool trials wd 2 un tr ou tu L (.int .i64 2)) := h.lift (state_half br g nb wt least part cool trials un tr ou now w h.h)
theorem Br.may1 (h : Br w br g gl B nb wt least part cool trials wd 1 un tr ou tu L) (now : Int) (hp : PBreakerHeals.ticks_Past.f now un = some false) :
    Calls Try.prog 43 #[.pointer (some ⟨br, 0, none⟩), .int .i64 now] w (Left w br g gl B nb wt least part cool trials wd 1 un tr ou tu L (.bool false)) := h.lift (may_open br g nb wt least part cool trials un tr ou now w h.h hp)
theorem Br.may12 (h : Br w br g gl B nb wt least part cool trials wd 1 un tr ou tu L) (now tr2 : Int) (hp : PBreakerHeals.ticks_Past.f now un = some true) (ht : 1 ≤ trials ∧ trials ≤ 1000) (h2 : tr2 = trials - 1) :
    Calls Try.prog 43 #[.pointer (some ⟨br, 0, none⟩), .int .i64 now] w (Left w br g gl B nb wt least part cool trials wd 2 un tr2 1 tu L (.bool true)) :=
  h.lift (may_of 0 0 trials 0 true tr2 1 br g nb wt least part cool trials un 0 0 now w (state_turn br g nb wt least part cool trials un tr ou now w h.h hp) (Or.inr ⟨ht.1, ht.2, by omega, by omega, rfl, h2, rfl⟩))
theorem Br.may2 (h : Br w br g gl B nb wt least part cool trials wd 2 un tr ou tu L) (now tr2 ou2 : Int) (ht : 1 ≤ tr ∧ tr ≤ 1000) (ho : 0 ≤ ou ∧ ou ≤ 1000) (h2 : tr2 = tr - 1) (h3 : ou2 = ou + 1) :
    Calls Try.prog 43 #[.pointer (some ⟨br, 0, none⟩), .int .i64 now] w (Left w br g gl B nb wt least part cool trials wd 2 un tr2 ou2 tu L (.bool true)) :=
  h.lift (may_of 0 0 tr ou true tr2 ou2 br g nb wt least part cool trials un 0 0 now w (state_half br g nb wt least part cool trials un tr ou now w h.h) (Or.inr ⟨ht.1, ht.2, ho.1, ho.2, rfl, h2, h3⟩))
theorem Br.may20 (h : Br w br g gl B nb wt least part cool trials wd 2 un 0 ou tu L) (now : Int) :
    Calls Try.prog 43 #[.pointer (some ⟨br, 0, none⟩), .int .i64 now] w (Left w br g gl B nb wt least part cool trials wd 2 un 0 ou tu L (.bool false)) :=
  h.lift (may_of 0 0 0 ou false 0 ou br g nb wt least part cool trials un 0 0 now w (state_half br g nb wt least part cool trials un 0 ou now w h.h) (Or.inl ⟨rfl, rfl, rfl, rfl⟩))
end
set_option maxHeartbeats 2000000 in
theorem awake_br (W : World) : Calls Try.prog 45 #[] W fun r w' => r = .returned (.bool true) ∧ Below W.heap.size W w' := by
  have hu68 := Try.underlying68
  go_enter Try.func45, Try.ntmps45
  go_wp2_with fail
  refine (new_at 0 0 1 100 5 0 1 100 100 5 5 1 0 1 1 W (by kernel_rfl) (by kernel_rfl) (by kernel_rfl) (by omega) (by omega) (by kernel_rfl) (by kernel_rfl) (by kernel_rfl) (by kernel_rfl) (by kernel_rfl) (by kernel_rfl)).mono ?_
  rintro e w1 ⟨br, g, gl, rfl, hbr, hge, hb⟩
  have R1 := Aside0.mk (show Br w1 br g gl 1 0 0 1 100 5 1 1 0 0 0 0 0 (L0 1 0 0) from hbr)
  have HS := Aside0.mk (show ∀ x ∈ [br, g, gl], W.heap.size ≤ x by intro x hx; simp at hx; omega)
  have B1 := Aside0.mk hb
  clear hbr hge hb
  go_wp2_with fail
  refine (R1.out.may0 0).mono ?_
  rintro e w2 ⟨rfl, h1, h2⟩
  have R2 := Aside0.mk h1
  have B2 := Aside0.mk (h2.below B1.out HS.out B1.out.size)
  clear h1 h2 R1 B1
  go_wp2_with fail
  refine (note_worse br g gl 1 0 0 1 100 5 1 0 0 0 1 0 0 0 1 5 false w2 R2.out (by omega) (by omega) ⟨rfl, rfl⟩ (by omega) (by decide) (by kernel_rfl)).mono ?_
  rintro e w3 ⟨rfl, h1, h2⟩
  have R3 := Aside0.mk h1
  have B3 := Aside0.mk (h2.below B2.out HS.out B2.out.size)
  clear h1 h2 R2 B2
  go_wp2_with fail
  refine (R3.out.st1 0 (by kernel_rfl)).mono ?_
  rintro e w4 ⟨rfl, h1, h2⟩
  have R4 := Aside0.mk h1
  have B4 := Aside0.mk (h2.below B3.out HS.out B3.out.size)
  clear h1 h2 R3 B3
  go_wp2_with fail
  refine (R4.out.may1 4 (by kernel_rfl)).mono ?_
  rintro e w5 ⟨rfl, h1, h2⟩
  have R5 := Aside0.mk h1
  have B5 := Aside0.mk (h2.below B4.out HS.out B4.out.size)
  clear h1 h2 R4 B4
  go_wp2_with fail
  refine (R5.out.st12 5 (by kernel_rfl)).mono ?_
  rintro e w6 ⟨rfl, h1, h2⟩
  have R6 := Aside0.mk h1
  have B6 := Aside0.mk (h2.below B5.out HS.out B5.out.size)
  clear h1 h2 R5 B5
  go_wp2_with fail
  refine (R6.out.may2 5 0 1 (by omega) (by omega) rfl rfl).mono ?_
  rintro e w7 ⟨rfl, h1, h2⟩
  have R7 := Aside0.mk h1
  have B7 := Aside0.mk (h2.below B6.out HS.out B6.out.size)
  clear h1 h2 R6 B6
  go_wp2_with fail
  refine (R7.out.may20 5).mono ?_
  rintro e w8 ⟨rfl, h1, h2⟩
  have B8 := Aside0.mk (h2.below B7.out HS.out B7.out.size)
  clear h1 h2 R7 B7
  go_wp2_with fail
  go_ret
  exact ⟨rfl, B8.out⟩
end Go.Proofs.Ytbbaonaahokidaa.Breaker
