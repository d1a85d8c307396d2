/- Stable sorting of few numbers: the closure that compares, insertion. -/
import Derived.Test.YtbbaonaahokidaaBreaker5
import Derived.Test.YtbbaonaahokidaaRegInv
import Derived.Deep.CutBlock
namespace Go.Proofs.Ytbbaonaahokidaa.Srt
open Go.RowKit Go.Proofs.YtbbaonaahokidaaW.PrintWords Go.Proofs.YtbbaonaahokidaaW.PrintLast Go.Proofs.YtbbaonaahokidaaW.PrintMore Go.Proofs.Ytbbaonaahokidaa.Aid Go.Proofs.Ytbbaonaahokidaa.Quiet Go.Proofs.Ytbbaonaahokidaa.Blk Go.Proofs.Ytbbaonaahokidaa.State Go.Proofs.Ytbbaonaahokidaa.Vals
set_option linter.unusedVariables false
set_option linter.unusedSimpArgs false

/-- What the closure reads: the slice's variable, the slice's numbers. -/
structure Ld (w : World) (lb : Nat) (ad : Addr) (c : Nat) (l : List Int) : Prop where
  box : w.heap[lb]? = some (.cells #[.slice (some ad) l.length c] 25 (0, 0))
  cells : ∀ j (h : j < l.length), w.cell? (ad.add j) = some (.int .i64 l[j])
theorem Ld.below' {w w' : World} {lb : Nat} {ad : Addr} {c : Nat} {l : List Int} (h : Ld w lb ad c l) (hb : Below w.heap.size w w') : Ld w' lb ad c l :=
  ⟨(hb.block lb (Quiet.blk_lt h.box)).trans h.box, fun j hj => (hb.cell (World.block_lt_of_cell? _ _ (h.cells j hj))).trans (h.cells j hj)⟩
theorem Ld.other {w : World} {lb : Nat} {ad : Addr} {c : Nat} {l : List Int} (h : Ld w lb ad c l) {p : Addr} (v : Value) (h1 : lb ≠ p.block) (h2 : ad.block ≠ p.block) : Ld (w.setCell p v) lb ad c l :=
  ⟨(Below.heap_setCell w p v lb h1).trans h.box, fun j hj => by
    have hblk : (ad.add j).block = ad.block := by unfold Addr.add; split <;> rfl
    have e := Below.heap_setCell w p v (ad.add j).block (by rw [hblk]; exact h2)
    have e2 := h.cells j hj
    unfold World.cell? at e2 ⊢
    rw [e]; exact e2⟩
/-- What comparing comes to. -/
def cv (a b : Int) : Int := if a < b then -1 else if b < a then 1 else 0
set_option maxHeartbeats 1000000 in
theorem cmp_at (lb : Nat) (ad : Addr) (c : Nat) (l : List Int) (a b : Nat) (w : World) (h : Ld w lb ad c l) (ha : a < l.length) (hb : b < l.length) :
    Calls Try.prog 73 #[.int .i64 a, .int .i64 b, .pointer (some ⟨lb, 0, none⟩)] w fun r w' => r = .returned (.int .i64 (cv l[a] l[b])) ∧ Below w.heap.size w w' := by
  have c0 : w.cell? ⟨lb, 0, none⟩ = some (.slice (some ad) l.length c) := by simp [World.cell?, h.box]
  have ca := h.cells a ha
  have cb := h.cells b hb
  obtain ⟨x, hx⟩ : ∃ x, l[a] = x := ⟨_, rfl⟩
  obtain ⟨y, hy⟩ : ∃ x, l[b] = x := ⟨_, rfl⟩
  rw [hx] at ca
  rw [hy] at cb
  rw [hx, hy]
  clear h hx hy
  rcases Int.lt_trichotomy x y with hlt | rfl | hlt
  · have d1 : decide (x < y) = true := decide_eq_true hlt
    have e : cv x y = -1 := if_pos hlt
    rw [e]
    clear e hlt
    go_enter Try.func73, Try.ntmps73
    go_wp2_with fail
    go_quiet (fail)
    go_wp2_with fail
    go_ret
    exact ⟨rfl, by first | exact below_drewN (Below.refl _ _) _ | exact Below.refl _ _⟩
  · have e : cv x x = 0 := by simp [cv]
    rw [e]
    clear e
    go_enter Try.func73, Try.ntmps73
    go_wp2_with fail
    go_quiet (fail)
    go_wp2_with fail
    go_quiet (fail)
    go_wp2_with fail
    go_ret
    exact ⟨rfl, by first | exact below_drewN (Below.refl _ _) _ | exact below_drewN (below_drewN (Below.refl _ _) _) _ | exact Below.refl _ _⟩
  · have d1 : decide (x < y) = false := decide_eq_false (by omega)
    have d2 : decide (y < x) = true := decide_eq_true hlt
    have e : cv x y = 1 := by unfold cv; rw [if_neg (by omega), if_pos hlt]
    rw [e]
    clear e hlt
    go_enter Try.func73, Try.ntmps73
    go_wp2_with fail
    go_quiet (fail)
    go_wp2_with fail
    go_quiet (fail)
    go_wp2_with fail
    go_ret
    exact ⟨rfl, by first | exact below_drewN (Below.refl _ _) _ | exact below_drewN (below_drewN (Below.refl _ _) _) _ | exact Below.refl _ _⟩

/-- The numbers Q lie at the front of the block og, of c cells. -/
def Row3 (w : World) (og c : Nat) (Q : List Nat) : Prop := ∃ sp : List Value, HoldsV 3 w og (Q.map (fun n : Nat => Value.int .i64 (n : Int)) ++ sp) ∧ Q.length + sp.length = c
theorem Row3.cell {w : World} {og c : Nat} {Q : List Nat} (h : Row3 w og c Q) (j : Nat) (x : Nat) (hj : Q[j]? = some x) : w.cell? ⟨og, j, none⟩ = some (.int .i64 (x : Int)) := by
  obtain ⟨sp, h1, h2⟩ := h
  have hl : j < Q.length := (List.getElem?_eq_some_iff.1 hj).1
  rw [h1.cell, List.getElem?_append_left (by simpa using hl), List.getElem?_map, hj]
  rfl
theorem Row3.free {w : World} {og c : Nat} {Q : List Nat} (h : Row3 w og c Q) (j : Nat) : w.frozen? ⟨og, j, none⟩ = false := by
  obtain ⟨sp, h1, h2⟩ := h
  exact h1.free j
theorem Row3.set {w : World} {og c : Nat} {Q : List Nat} (h : Row3 w og c Q) (j x : Nat) (hj : j < Q.length) : Row3 (w.setCell ⟨og, j, none⟩ (.int .i64 (x : Int))) og c (Q.set j x) := by
  obtain ⟨sp, h1, h2⟩ := h
  refine ⟨sp, ?_, by simpa using h2⟩
  have h3 := h1.set j (.int .i64 (x : Int))
  rw [List.set_append_left _ _ (by simpa using hj), ← List.map_set (f := fun n : Nat => Value.int .i64 (n : Int))] at h3
  exact h3
theorem Row3.below' {w w' : World} {og c : Nat} {Q : List Nat} (h : Row3 w og c Q) (hb : Below w.heap.size w w') : Row3 w' og c Q := by
  obtain ⟨sp, h1, h2⟩ := h
  exact ⟨sp, h1.below' hb, h2⟩
theorem Row3.lt {w : World} {og c : Nat} {Q : List Nat} (h : Row3 w og c Q) : og < w.heap.size := by
  obtain ⟨sp, h1, h2⟩ := h
  exact h1.lt
theorem Row3.le {w : World} {og c : Nat} {Q : List Nat} (h : Row3 w og c Q) : Q.length ≤ c := by
  obtain ⟨sp, h1, h2⟩ := h
  omega

/-- What is in order: by what they have, then by their places. -/
def RR (ld : Nat → Int) (a b : Nat) : Prop := ld a < ld b ∨ (ld a = ld b ∧ a < b)
structure Out (ld : Nat → Int) (P rest : List Nat) : Prop where
  s : P.Pairwise (RR ld)
  fr : ∀ a ∈ P, ∀ b ∈ rest, a < b
  inc : rest.Pairwise (· < ·)
structure Ins (ld : Nat → Int) (A B rest : List Nat) (x : Nat) : Prop where
  s : (A ++ B).Pairwise (RR ld)
  g : ∀ b ∈ B, ld x < ld b
  lt : ∀ a ∈ A ++ B, a < x
  fr : ∀ a ∈ A ++ B, ∀ b ∈ rest, a < b
  inc : (x :: rest).Pairwise (· < ·)
theorem Out.begin {ld : Nat → Int} {P rest : List Nat} {x : Nat} (h : Out ld P (x :: rest)) : Ins ld P [] rest x :=
  ⟨by simpa using h.s, fun b hb => (by simp at hb), fun a ha => h.fr a (by simpa using ha) x (by simp), fun a ha b hb => h.fr a (by simpa using ha) b (List.mem_cons_of_mem _ hb), h.inc⟩
theorem Ins.step {ld : Nat → Int} {A B rest : List Nat} {x z : Nat} (h : Ins ld (A ++ [z]) B rest x) (hlt : ld x < ld z) : Ins ld A (z :: B) rest x :=
  ⟨by simpa using h.s, fun b hb => (List.mem_cons.1 hb).elim (fun e => e ▸ hlt) (h.g b), fun a ha => h.lt a (by simpa using ha), fun a ha => h.fr a (by simpa using ha), h.inc⟩
theorem Ins.stop {ld : Nat → Int} {A B rest : List Nat} {x : Nat} (h : Ins ld A B rest x) (hs : ∀ A' z, A = A' ++ [z] → ld z ≤ ld x) : Out ld (A ++ x :: B) rest := by
  have hx : ∀ a ∈ A, ld a ≤ ld x := fun a ha => by
    rcases List.eq_nil_or_concat A with rfl | ⟨A', z, e⟩
    · cases ha
    rw [List.concat_eq_append] at e
    subst e
    have hz := hs A' z rfl
    rcases List.mem_append.1 ha with ha | ha
    · have h1 := (List.pairwise_append.1 h.s).1
      have h2 := (List.pairwise_append.1 h1).2.2 a ha z (by simp)
      rcases h2 with h2 | h2 <;> omega
    · have : a = z := by simpa using ha
      subst this
      exact hz
  refine ⟨?_, ?_, (List.pairwise_cons.1 h.inc).2⟩
  · obtain ⟨h1, h2, h3⟩ := List.pairwise_append.1 h.s
    refine List.pairwise_append.2 ⟨h1, List.pairwise_cons.2 ⟨fun b hb => Or.inl (h.g b hb), h2⟩, fun a ha b hb => ?_⟩
    rcases List.mem_cons.1 hb with rfl | hb
    · have h4 := hx a ha
      have h5 := h.lt a (by simp [ha])
      rcases Int.lt_or_eq_of_le h4 with h6 | h6
      · exact Or.inl h6
      · exact Or.inr ⟨h6, h5⟩
    · exact h3 a ha b hb
  · intro a ha b hb
    rcases List.mem_append.1 ha with ha | ha
    · exact h.fr a (by simp [ha]) b hb
    · rcases List.mem_cons.1 ha with rfl | ha
      · exact (List.pairwise_cons.1 h.inc).1 b hb
      · exact h.fr a (by simp [ha]) b hb
theorem wsuccS (n : Nat) (h : n ≤ 10000) : wrap64 ((n : Int) + 1) = ((n + 1 : Nat) : Int) := by
  rw [w64 _ (by omega) (by omega)]
  omega
theorem swap_list (A T : List Nat) (x z : Nat) : (A ++ z :: x :: T)[A.length]? = some z ∧ (A ++ z :: x :: T)[A.length + 1]? = some x ∧ (A ++ z :: x :: T).set (A.length + 1) z = A ++ z :: z :: T ∧ (A ++ z :: z :: T)[A.length]? = some z ∧ (A ++ z :: z :: T).set A.length x = A ++ x :: z :: T := by
  refine ⟨by simp, ?_, ?_, by simp, ?_⟩
  · rw [List.getElem?_append_right (by omega)]; simp
  · rw [List.set_append_right _ _ (by omega)]; simp
  · rw [List.set_append_right _ _ (by omega)]; simp
structure SW (lb : Nat) (ad : Addr) (c : Nat) (l : List Int) (og oc m jn x z : Nat) (Q Q1 Q2 : List Nat) (w0 : World) (D : Nat → Bool) (u37 u38 u39 u40 u41 u42 u43 u44 u45 u46 u47 u48 u49 u50 u51 u52 : Value) (w : World) : Prop where
  below : OnlyIn [og] w0 w
  h0 : D 0 = true → u37 = .slice (some ⟨og, 0, none⟩) m oc
  h1 : D 1 = true → u38 = .int .i64 ((jn : Int) + 1)
  h2 : D 2 = true → u39 = .slice (some ⟨og, 0, none⟩) m oc
  h3 : D 3 = true → u40 = .int .i64 ((jn : Int) + 1)
  h4 : D 4 = true → u41 = .int .i64 (jn : Int)
  h5 : D 5 = true → u42 = .slice (some ⟨og, 0, none⟩) m oc
  h6 : D 6 = true → u43 = .int .i64 ((jn : Int) + 1)
  h7 : D 7 = true → u44 = .int .i64 (jn : Int)
  h8 : D 8 = true → u45 = .pointer (some ⟨og, jn, none⟩)
  h9 : D 9 = true → u46 = .int .i64 (z : Int)
  h10 : D 10 = true → u47 = .slice (some ⟨og, 0, none⟩) m oc
  h11 : D 11 = true → u48 = .int .i64 ((jn : Int) + 1)
  h12 : D 12 = true → u49 = .pointer (some ⟨og, jn + 1, none⟩)
  h13 : D 13 = true → u50 = .int .i64 (x : Int)
  h14 : D 14 = true → u51 = .pointer (some ⟨og, jn + 1, none⟩)
  h16 : D 16 = true → u52 = .pointer (some ⟨og, jn, none⟩)
  r0 : D 15 = false → Row3 w og oc Q
  r1 : D 15 = true → D 17 = false → Row3 w og oc Q1
  r2 : D 17 = true → Row3 w og oc Q2
  ld : Ld w lb ad c l
  o15 : D 15 = true → D 9 = true ∧ D 13 = true
  o17 : D 17 = true → D 15 = true

set_option maxHeartbeats 4000000 in
set_option maxRecDepth 100000 in
theorem ins_at (lb : Nat) (ad : Addr) (c : Nat) (l : List Int) (og oc m : Nat) (Q : List Nat) (w : World) (h : Ld w lb ad c l) (hr : Row3 w og oc Q) (hm : Q.length = m) (hm1 : m ≤ 12) (hne : lb ≠ og ∧ ad.block ≠ og) (hv : ∀ x ∈ Q, x < l.length) (hq : Q.Pairwise (· < ·)) :
    Calls Try.prog 79 #[.slice (some ⟨og, 0, none⟩) m oc, .int .i64 0, .int .i64 m, .func (.func 73) #[] #[.pointer (some ⟨lb, 0, none⟩)]] w fun r w' => r = .returned (.tuple #[]) ∧ (∃ Q2 : List Nat, Row3 w' og oc Q2 ∧ Q2.Perm Q ∧ Q2.Pairwise (RR fun n => l[n]?.getD 0)) ∧ Ld w' lb ad c l ∧ OnlyIn [og] w w' := by
  have H := Aside0.mk h
  have HR := Aside0.mk hr
  have HN := Aside0.mk hne
  have hoc := hr.le
  have HV := Aside0.mk hv
  have HM := Aside0.mk hm
  obtain ⟨ld, hld⟩ : ∃ f : Nat → Int, (fun n => l[n]?.getD 0) = f := ⟨_, rfl⟩
  rw [hld]
  have HLD := Aside0.mk hld
  clear h hr hne hv hld
  rw [hm] at hoc
  go_enter Try.func79, Try.ntmps79
  go_wp2_with fail
  go_loopg [8, 9] m (fun gg v8 v9 wx => ∃ (i : Nat) (P rest : List Nat), v8 = .int .i64 (i : Int) ∧ gg + i = m + 1 ∧ ((∃ x r, rest = x :: r ∧ P.length = i ∧ i < m) ∨ (rest = [] ∧ m ≤ i)) ∧ Out ld P rest ∧ P.length + rest.length = m ∧ (P ++ rest).Perm Q ∧ Row3 wx og oc (P ++ rest) ∧ Ld wx lb ad c l ∧ OnlyIn [og] w wx)
  case atStart =>
    have h1 := HM.out
    cases Q with
    | nil => exact ⟨1, [], [], rfl, rfl, Or.inr ⟨rfl, by simp at h1; omega⟩, ⟨by simp, by simp, by simp⟩, by simpa using h1, List.Perm.refl _, HR.out, H.out, OnlyIn.refl _ _⟩
    | cons q r =>
      simp only [List.length_cons] at h1
      refine ⟨1, [q], r, rfl, by omega, ?_, ⟨by simp, fun a ha b hb => by simp at ha; subst ha; exact (List.pairwise_cons.1 hq).1 b hb, (List.pairwise_cons.1 hq).2⟩, by simp; omega, List.Perm.refl _, HR.out, H.out, OnlyIn.refl _ _⟩
      cases r with
      | nil => exact Or.inr ⟨rfl, by simp at h1; omega⟩
      | cons x r => exact Or.inl ⟨x, r, rfl, rfl, by simp at h1; omega⟩
  case round =>
    obtain ⟨i, P, rest, rfl, hi, hcase, hout, hlen, hperm, hrow, hl, ho⟩ := hrel
    rcases hcase with ⟨x, r, rfl, hP, him⟩ | ⟨rfl, him⟩
    · have HO := Aside0.mk hout
      have HP := Aside0.mk (And.intro hi (And.intro hlen (And.intro hperm hP)))
      have HRW := Aside0.mk hrow
      have HL := Aside0.mk hl
      have HOn := Aside0.mk ho
      have d1 : decide ((i : Int) < (m : Int)) = true := decide_eq_true (by omega)
      have HM2 := Aside0.mk him
      clear hi hout hlen hperm hP hrow hl ho H HR
      go_wp2_with fail
      go_loopg [9] i (fun gg v9 wx => ∃ A B : List Nat, gg = A.length ∧ v9 = .int .i64 (A.length : Int) ∧ Ins ld A B r x ∧ A.length + B.length = i ∧ Row3 wx og oc (A ++ x :: B ++ r) ∧ (A ++ x :: B ++ r).Perm Q ∧ Ld wx lb ad c l ∧ OnlyIn [og] w wx)
      case atStart =>
        refine ⟨P, [], HP.out.2.2.2.symm, by rw [HP.out.2.2.2], HO.out.begin, by simpa using HP.out.2.2.2, ?_, ?_, HL.out, HOn.out⟩
        · have h := HRW.out; simpa using h
        · have h := HP.out.2.2.1; simpa using h
      case round =>
        clear HO HRW HL HOn d1 him
        obtain ⟨A, B, rfl, rfl, hins, hab, hrow, hperm, hl, ho⟩ := hrel
        have HI := Aside0.mk hins
        have HRR0 := Aside0.mk hrow
        have HPM := Aside0.mk hperm
        have HL0 := Aside0.mk hl
        have HOn := Aside0.mk ho
        have HAB := Aside0.mk hab
        clear hins hrow hperm hl ho hab
        rcases List.eq_nil_or_concat A with rfl | ⟨A', z, e⟩
        · have HOUT := Aside0.mk (HI.out.stop (fun A' z e => absurd e (by simp)))
          go_wp2_with fail
          refine wp_region_below (by kernel_rfl) (by kernel_rfl) ?_
          repeat (go_big_quiet_step ((intro hw; with_reducible rfl)))
          refine wpQuiet_nil ?_
          intro W2 hb2
          have HRW := Aside0.mk (HRR0.out.below' hb2)
          have HL := Aside0.mk (HL0.out.below' hb2)
          have HO2 := Aside0.mk (HOn.out.next hb2)
          clear hb2
          go_wp2_with fail
          go_roundg (m - i)
          case measure => have := HP.out.1; have := HM2.out; omega
          case rel => exact ⟨i + 1, [] ++ x :: B, r, by rw [wsuccS i (by have := HP.out; omega)], by have := HP.out.1; have := HM2.out; omega, by cases r with | nil => exact Or.inr ⟨rfl, by have h := HP.out; simp at h; omega⟩ | cons y r => exact Or.inl ⟨y, r, rfl, by have h := HAB.out; simp at h ⊢; omega, by have h := HP.out; simp at h; omega⟩, HOUT.out, by have h1 := HP.out; have h2 := HAB.out; simp at h1 h2 ⊢; omega, by exact HPM.out, by exact HRW.out, HL.out, HO2.out⟩
        · rw [List.concat_eq_append] at e
          subst e
          obtain ⟨jn, hjn⟩ : ∃ j, A'.length = j := ⟨_, rfl⟩
          have hlen : (A' ++ [z]).length = jn + 1 := by simp [hjn]
          have HB := Aside0.mk (show jn + 1 < m ∧ (jn + 1) + B.length = i by have h1 := HM2.out; have h2 := HAB.out; rw [hlen] at h2; omega)
          rw [hlen]
          have hq0 := swap_list A' (B ++ r) x z
          rw [hjn] at hq0
          obtain ⟨Q0, hQ0⟩ : ∃ q, A' ++ z :: x :: (B ++ r) = q := ⟨_, rfl⟩
          obtain ⟨Q1, hQ1⟩ : ∃ q, A' ++ z :: z :: (B ++ r) = q := ⟨_, rfl⟩
          obtain ⟨Q3, hQ3⟩ : ∃ q, A' ++ x :: z :: (B ++ r) = q := ⟨_, rfl⟩
          have e0 : A' ++ [z] ++ x :: B ++ r = Q0 := by rw [← hQ0]; simp
          have HE2 := Aside0.mk (show A' ++ x :: (z :: B) ++ r = Q3 by rw [← hQ3]; simp)
          have HP3 := Aside0.mk (show Q3.Perm Q0 by rw [← hQ3, ← hQ0]; exact List.Perm.append_left A' (List.Perm.swap z x (B ++ r)))
          have HJ := Aside0.mk hjn
          rw [hQ0, hQ1, hQ3] at hq0
          have HQ := Aside0.mk hq0
          rw [e0] at HRR0 HPM
          have HE := Aside0.mk (And.intro e0 hQ3)
          have hxl : x < l.length := HV.out x (HPM.out.subset (by rw [← hQ0]; simp))
          have hzl : z < l.length := HV.out z (HPM.out.subset (by rw [← hQ0]; simp))
          have hx1 : ld x = l[x] := by rw [← HLD.out]; simp [hxl]
          have hz1 : ld z = l[z] := by rw [← HLD.out]; simp [hzl]
          have k1 : IntKind.i64.wrap (((jn + 1 : Nat) : Int) - 1) = (jn : Int) := by have := HB.out; rw [IntKind.wrap_i64]; omega
          have k2 : ((jn + 1 : Nat) : Int) - 1 = (jn : Int) := by omega
          have cx := HRR0.out.cell (jn + 1) x HQ.out.2.1
          have cz := HRR0.out.cell jn z HQ.out.1
          have hog := HRR0.out.lt
          have hjm : jn + 1 < m := HB.out.1
          have hjm0 : jn < m := by omega
          have hjz1 : (0 : Int) ≤ (jn : Int) + 1 := by omega
          have hjz2 : (jn : Int) + 1 < (m : Int) := by omega
          have k3 : IntKind.i64.wrap (jn : Int) = (jn : Int) := by have := HB.out; rw [IntKind.wrap_i64]; omega
          have d0 : decide ((0 : Int) < ((jn + 1 : Nat) : Int)) = true := decide_eq_true (by omega)
          obtain ⟨v, hv⟩ : ∃ v, cv l[x] l[z] = v := ⟨_, rfl⟩
          have CMP := Aside0.mk (fun (w : World) (h : Ld w lb ad c l) => (show Calls Try.prog 73 #[.int .i64 x, .int .i64 z, .pointer (some ⟨lb, 0, none⟩)] w fun r w' => r = .returned (.int .i64 v) ∧ Below w.heap.size w w' from hv ▸ cmp_at lb ad c l x z w h hxl hzl))
          have HXZ := Aside0.mk (show (decide (v < 0) = true → ld x < ld z) ∧ (decide (v < 0) = false → ld z ≤ ld x) by
            rw [hx1, hz1, ← hv]
            unfold cv
            by_cases h1 : l[x] < l[z]
            · rw [if_pos h1]; exact ⟨fun _ => h1, fun h => by simp at h⟩
            · rw [if_neg h1]; exact ⟨fun h => by split at h <;> simp at h, fun _ => by omega⟩)
          clear hq0 hlen hjn hQ0 hQ1 e0 hx1 hz1 hv hxl hzl
          go_wp2_with fail
          refine wp_region_below (by kernel_rfl) (by kernel_rfl) ?_
          repeat (go_big_quiet_step ((intro hw; first
            | (with_reducible rfl)
            | (go_at_call 73; exact q_below hw (CMP.out _ (HL0.out.below' hw)))
            | (have e1 := (hw.cell (p := ⟨og, jn + 1, none⟩) hog).trans cx
               have e2 := (hw.cell (p := ⟨og, jn, none⟩) hog).trans cz
               simp only [e1, e2, Result.andThen_ok]; go_simp; first | rfl | exact ⟨rfl, rfl⟩))))
          refine wpQuiet_nil ?_
          intro W2 hb2
          have HRR := Aside0.mk (HRR0.out.below' hb2)
          have HL := Aside0.mk (HL0.out.below' hb2)
          have HO2 := Aside0.mk (HOn.out.next hb2)
          clear hb2 cx cz hog HRR0 HL0 HOn CMP
          cases hvb : decide (v < 0) with
          | false =>
            have HOUT := Aside0.mk (HI.out.stop (fun A2 z2 e => by
              have := List.append_inj' e rfl
              have h3 : z = z2 := by simpa using this.2
              rw [← h3]
              exact HXZ.out.2 hvb))
            clear hvb
            go_wp2_with fail
            go_roundg (m - i)
            case measure => have := HP.out.1; have := HM2.out; omega
            case rel => exact ⟨i + 1, (A' ++ [z]) ++ x :: B, r, by rw [wsuccS i (by have := HP.out; omega)], by have := HP.out.1; have := HM2.out; omega, by cases r with | nil => exact Or.inr ⟨rfl, by have h := HP.out; simp at h; omega⟩ | cons y r => exact Or.inl ⟨y, r, rfl, by have h := HAB.out; simp at h ⊢; omega, by have h := HP.out; simp at h; omega⟩, HOUT.out, by have h1 := HP.out; have h2 := HAB.out; simp at h1 h2 ⊢; omega, by rw [HE.out.1]; exact HPM.out, by rw [HE.out.1]; exact HRR.out, HL.out, HO2.out⟩
          | true =>
            have HSTEP := Aside0.mk (HI.out.step (HXZ.out.1 hvb))
            clear hvb
            go_upto_region 6 with fail
            refine RegInv.wp_region_steps (I := fun D a w => ∃ u37 u38 u39 u40 u41 u42 u43 u44 u45 u46 u47 u48 u49 u50 u51 u52, a = ⟨(.slice (some ⟨og, 0, none⟩) m oc :: .int .i64 0 :: .int .i64 (m : Int) :: .func (.func 73) #[] #[.pointer (some ⟨lb, 0, none⟩)] :: undef :: undef :: undef :: undef :: .int .i64 (i : Int) :: .int .i64 ((jn : Int) + 1) :: .int .i64 (0 : Int) :: .int .i64 (1 : Int) :: .int .i64 (i : Int) :: .int .i64 (m : Int) :: .bool true :: u15 :: u16 :: .int .i64 (i : Int) :: .int .i64 ((jn : Int) + 1) :: .int .i64 (0 : Int) :: .bool true :: .bool true :: .func (.func 73) #[] #[.pointer (some ⟨lb, 0, none⟩)] :: .slice (some ⟨og, 0, none⟩) m oc :: .int .i64 ((jn : Int) + 1) :: .pointer (some ⟨og, jn + 1, none⟩) :: .int .i64 (x : Int) :: .slice (some ⟨og, 0, none⟩) m oc :: .int .i64 ((jn : Int) + 1) :: .int .i64 (jn : Int) :: .pointer (some ⟨og, jn, none⟩) :: .int .i64 (z : Int) :: .int .i64 (v : Int) :: .bool true :: .bool true :: u35 :: u36 :: u37 :: u38 :: u39 :: u40 :: u41 :: u42 :: u43 :: u44 :: u45 :: u46 :: u47 :: u48 :: u49 :: u50 :: u51 :: u52 :: []).toArray, []⟩ ∧ SW lb ad c l og oc m jn x z Q0 Q1 Q3 W2 D u37 u38 u39 u40 u41 u42 u43 u44 u45 u46 u47 u48 u49 u50 u51 u52 w) (by kernel_rfl) (by kernel_rfl) ?_ ?_ ?_
            · exact ⟨_, _, _, _, _, _, _, _, _, _, _, _, _, _, _, _, rfl, ⟨OnlyIn.of_below ((Below.refl _ _).drew), fun h => (by cases h), fun h => (by cases h), fun h => (by cases h), fun h => (by cases h), fun h => (by cases h), fun h => (by cases h), fun h => (by cases h), fun h => (by cases h), fun h => (by cases h), fun h => (by cases h), fun h => (by cases h), fun h => (by cases h), fun h => (by cases h), fun h => (by cases h), fun h => (by cases h), fun h => (by cases h), fun _ => HRR.out.below' ((Below.refl _ _).drew), fun h => (by cases h), fun h => (by cases h), HL.out.below' ((Below.refl _ _).drew), fun h => (by cases h), fun h => (by cases h)⟩⟩
            · rintro D a w ⟨u37, u38, u39, u40, u41, u42, u43, u44, u45, u46, u47, u48, u49, u50, u51, u52, rfl, hR⟩ hall
              obtain rfl := hR.h0 (hall 0 (by decide))
              obtain rfl := hR.h1 (hall 1 (by decide))
              obtain rfl := hR.h2 (hall 2 (by decide))
              obtain rfl := hR.h3 (hall 3 (by decide))
              obtain rfl := hR.h4 (hall 4 (by decide))
              obtain rfl := hR.h5 (hall 5 (by decide))
              obtain rfl := hR.h6 (hall 6 (by decide))
              obtain rfl := hR.h7 (hall 7 (by decide))
              obtain rfl := hR.h8 (hall 8 (by decide))
              obtain rfl := hR.h9 (hall 9 (by decide))
              obtain rfl := hR.h10 (hall 10 (by decide))
              obtain rfl := hR.h11 (hall 11 (by decide))
              obtain rfl := hR.h12 (hall 12 (by decide))
              obtain rfl := hR.h13 (hall 13 (by decide))
              obtain rfl := hR.h14 (hall 14 (by decide))
              obtain rfl := hR.h16 (hall 16 (by decide))
              have h1 := hR.r2 (hall 17 (by decide))
              have h2 := hR.ld
              have h4 := Aside0.mk (HO2.out.trans hR.below)
              clear hR
              go_wp2_with fail
              go_roundg jn
              case measure => have := HJ.out; simp; omega
              case rel => exact ⟨A', z :: B, by rw [HJ.out], by rw [HJ.out], HSTEP.out, by have := HAB.out; simp at this ⊢; omega, by rw [HE2.out]; exact h1, by rw [HE2.out]; exact (HP3.out).trans HPM.out, h2, h4.out⟩
            · refine RegInv.Steps.cons (fun D a w hI hD hdep K hK => ?_) ?_
              · obtain ⟨u37, u38, u39, u40, u41, u42, u43, u44, u45, u46, u47, u48, u49, u50, u51, u52, rfl, hR⟩ := hI
                rw [if_pos (by rfl)]
                go_simp
                exact hK.out _ _ ⟨_, _, _, _, _, _, _, _, _, _, _, _, _, _, _, _, rfl, ⟨hR.below, fun _ => rfl, hR.h1, hR.h2, hR.h3, hR.h4, hR.h5, hR.h6, hR.h7, hR.h8, hR.h9, hR.h10, hR.h11, hR.h12, hR.h13, hR.h14, hR.h16, hR.r0, hR.r1, hR.r2, hR.ld, hR.o15, hR.o17⟩⟩
              refine RegInv.Steps.cons (fun D a w hI hD hdep K hK => ?_) ?_
              · obtain ⟨u37, u38, u39, u40, u41, u42, u43, u44, u45, u46, u47, u48, u49, u50, u51, u52, rfl, hR⟩ := hI
                rw [if_pos (by rfl)]
                go_simp
                exact hK.out _ _ ⟨_, _, _, _, _, _, _, _, _, _, _, _, _, _, _, _, rfl, ⟨hR.below, hR.h0, fun _ => rfl, hR.h2, hR.h3, hR.h4, hR.h5, hR.h6, hR.h7, hR.h8, hR.h9, hR.h10, hR.h11, hR.h12, hR.h13, hR.h14, hR.h16, hR.r0, hR.r1, hR.r2, hR.ld, hR.o15, hR.o17⟩⟩
              refine RegInv.Steps.cons (fun D a w hI hD hdep K hK => ?_) ?_
              · obtain ⟨u37, u38, u39, u40, u41, u42, u43, u44, u45, u46, u47, u48, u49, u50, u51, u52, rfl, hR⟩ := hI
                rw [if_pos (by rfl)]
                go_simp
                exact hK.out _ _ ⟨_, _, _, _, _, _, _, _, _, _, _, _, _, _, _, _, rfl, ⟨hR.below, hR.h0, hR.h1, fun _ => rfl, hR.h3, hR.h4, hR.h5, hR.h6, hR.h7, hR.h8, hR.h9, hR.h10, hR.h11, hR.h12, hR.h13, hR.h14, hR.h16, hR.r0, hR.r1, hR.r2, hR.ld, hR.o15, hR.o17⟩⟩
              refine RegInv.Steps.cons (fun D a w hI hD hdep K hK => ?_) ?_
              · obtain ⟨u37, u38, u39, u40, u41, u42, u43, u44, u45, u46, u47, u48, u49, u50, u51, u52, rfl, hR⟩ := hI
                rw [if_pos (by rfl)]
                go_simp
                exact hK.out _ _ ⟨_, _, _, _, _, _, _, _, _, _, _, _, _, _, _, _, rfl, ⟨hR.below, hR.h0, hR.h1, hR.h2, fun _ => rfl, hR.h4, hR.h5, hR.h6, hR.h7, hR.h8, hR.h9, hR.h10, hR.h11, hR.h12, hR.h13, hR.h14, hR.h16, hR.r0, hR.r1, hR.r2, hR.ld, hR.o15, hR.o17⟩⟩
              refine RegInv.Steps.cons (fun D a w hI hD hdep K hK => ?_) ?_
              · obtain ⟨u37, u38, u39, u40, u41, u42, u43, u44, u45, u46, u47, u48, u49, u50, u51, u52, rfl, hR⟩ := hI
                have d3 : D 3 = true := hdep ⟨3, .data⟩ (by simp) rfl
                obtain rfl := hR.h3 d3
                rw [if_pos (by rfl)]
                go_simp
                exact hK.out _ _ ⟨_, _, _, _, _, _, _, _, _, _, _, _, _, _, _, _, rfl, ⟨hR.below, hR.h0, hR.h1, hR.h2, hR.h3, fun _ => rfl, hR.h5, hR.h6, hR.h7, hR.h8, hR.h9, hR.h10, hR.h11, hR.h12, hR.h13, hR.h14, hR.h16, hR.r0, hR.r1, hR.r2, hR.ld, hR.o15, hR.o17⟩⟩
              refine RegInv.Steps.cons (fun D a w hI hD hdep K hK => ?_) ?_
              · obtain ⟨u37, u38, u39, u40, u41, u42, u43, u44, u45, u46, u47, u48, u49, u50, u51, u52, rfl, hR⟩ := hI
                rw [if_pos (by rfl)]
                go_simp
                exact hK.out _ _ ⟨_, _, _, _, _, _, _, _, _, _, _, _, _, _, _, _, rfl, ⟨hR.below, hR.h0, hR.h1, hR.h2, hR.h3, hR.h4, fun _ => rfl, hR.h6, hR.h7, hR.h8, hR.h9, hR.h10, hR.h11, hR.h12, hR.h13, hR.h14, hR.h16, hR.r0, hR.r1, hR.r2, hR.ld, hR.o15, hR.o17⟩⟩
              refine RegInv.Steps.cons (fun D a w hI hD hdep K hK => ?_) ?_
              · obtain ⟨u37, u38, u39, u40, u41, u42, u43, u44, u45, u46, u47, u48, u49, u50, u51, u52, rfl, hR⟩ := hI
                rw [if_pos (by rfl)]
                go_simp
                exact hK.out _ _ ⟨_, _, _, _, _, _, _, _, _, _, _, _, _, _, _, _, rfl, ⟨hR.below, hR.h0, hR.h1, hR.h2, hR.h3, hR.h4, hR.h5, fun _ => rfl, hR.h7, hR.h8, hR.h9, hR.h10, hR.h11, hR.h12, hR.h13, hR.h14, hR.h16, hR.r0, hR.r1, hR.r2, hR.ld, hR.o15, hR.o17⟩⟩
              refine RegInv.Steps.cons (fun D a w hI hD hdep K hK => ?_) ?_
              · obtain ⟨u37, u38, u39, u40, u41, u42, u43, u44, u45, u46, u47, u48, u49, u50, u51, u52, rfl, hR⟩ := hI
                have d6 : D 6 = true := hdep ⟨6, .data⟩ (by simp) rfl
                obtain rfl := hR.h6 d6
                rw [if_pos (by rfl)]
                go_simp
                exact hK.out _ _ ⟨_, _, _, _, _, _, _, _, _, _, _, _, _, _, _, _, rfl, ⟨hR.below, hR.h0, hR.h1, hR.h2, hR.h3, hR.h4, hR.h5, hR.h6, fun _ => rfl, hR.h8, hR.h9, hR.h10, hR.h11, hR.h12, hR.h13, hR.h14, hR.h16, hR.r0, hR.r1, hR.r2, hR.ld, hR.o15, hR.o17⟩⟩
              refine RegInv.Steps.cons (fun D a w hI hD hdep K hK => ?_) ?_
              · obtain ⟨u37, u38, u39, u40, u41, u42, u43, u44, u45, u46, u47, u48, u49, u50, u51, u52, rfl, hR⟩ := hI
                have d5 : D 5 = true := hdep ⟨5, .data⟩ (by simp) rfl
                obtain rfl := hR.h5 d5
                have d7 : D 7 = true := hdep ⟨7, .data⟩ (by simp) rfl
                obtain rfl := hR.h7 d7
                rw [if_pos (by rfl)]
                go_simp
                exact hK.out _ _ ⟨_, _, _, _, _, _, _, _, _, _, _, _, _, _, _, _, rfl, ⟨hR.below, hR.h0, hR.h1, hR.h2, hR.h3, hR.h4, hR.h5, hR.h6, hR.h7, fun _ => rfl, hR.h9, hR.h10, hR.h11, hR.h12, hR.h13, hR.h14, hR.h16, hR.r0, hR.r1, hR.r2, hR.ld, hR.o15, hR.o17⟩⟩
              refine RegInv.Steps.cons (fun D a w hI hD hdep K hK => ?_) ?_
              · obtain ⟨u37, u38, u39, u40, u41, u42, u43, u44, u45, u46, u47, u48, u49, u50, u51, u52, rfl, hR⟩ := hI
                have d8 : D 8 = true := hdep ⟨8, .data⟩ (by simp) rfl
                obtain rfl := hR.h8 d8
                have h15 : D 15 = false := by
                  cases h : D 15 with
                  | false => rfl
                  | true => exact absurd (hR.o15 h).1 (by rw [hD]; decide)
                have cc := (hR.r0 h15).cell jn z HQ.out.1
                rw [if_pos (by rfl)]
                go_simp
                exact hK.out _ _ ⟨_, _, _, _, _, _, _, _, _, _, _, _, _, _, _, _, rfl, ⟨hR.below, hR.h0, hR.h1, hR.h2, hR.h3, hR.h4, hR.h5, hR.h6, hR.h7, hR.h8, fun _ => rfl, hR.h10, hR.h11, hR.h12, hR.h13, hR.h14, hR.h16, hR.r0, hR.r1, hR.r2, hR.ld, fun h => ⟨rfl, (hR.o15 h).2⟩, hR.o17⟩⟩
              refine RegInv.Steps.cons (fun D a w hI hD hdep K hK => ?_) ?_
              · obtain ⟨u37, u38, u39, u40, u41, u42, u43, u44, u45, u46, u47, u48, u49, u50, u51, u52, rfl, hR⟩ := hI
                rw [if_pos (by rfl)]
                go_simp
                exact hK.out _ _ ⟨_, _, _, _, _, _, _, _, _, _, _, _, _, _, _, _, rfl, ⟨hR.below, hR.h0, hR.h1, hR.h2, hR.h3, hR.h4, hR.h5, hR.h6, hR.h7, hR.h8, hR.h9, fun _ => rfl, hR.h11, hR.h12, hR.h13, hR.h14, hR.h16, hR.r0, hR.r1, hR.r2, hR.ld, hR.o15, hR.o17⟩⟩
              refine RegInv.Steps.cons (fun D a w hI hD hdep K hK => ?_) ?_
              · obtain ⟨u37, u38, u39, u40, u41, u42, u43, u44, u45, u46, u47, u48, u49, u50, u51, u52, rfl, hR⟩ := hI
                rw [if_pos (by rfl)]
                go_simp
                exact hK.out _ _ ⟨_, _, _, _, _, _, _, _, _, _, _, _, _, _, _, _, rfl, ⟨hR.below, hR.h0, hR.h1, hR.h2, hR.h3, hR.h4, hR.h5, hR.h6, hR.h7, hR.h8, hR.h9, hR.h10, fun _ => rfl, hR.h12, hR.h13, hR.h14, hR.h16, hR.r0, hR.r1, hR.r2, hR.ld, hR.o15, hR.o17⟩⟩
              refine RegInv.Steps.cons (fun D a w hI hD hdep K hK => ?_) ?_
              · obtain ⟨u37, u38, u39, u40, u41, u42, u43, u44, u45, u46, u47, u48, u49, u50, u51, u52, rfl, hR⟩ := hI
                have d10 : D 10 = true := hdep ⟨10, .data⟩ (by simp) rfl
                obtain rfl := hR.h10 d10
                have d11 : D 11 = true := hdep ⟨11, .data⟩ (by simp) rfl
                obtain rfl := hR.h11 d11
                rw [if_pos (by rfl)]
                go_simp
                exact hK.out _ _ ⟨_, _, _, _, _, _, _, _, _, _, _, _, _, _, _, _, rfl, ⟨hR.below, hR.h0, hR.h1, hR.h2, hR.h3, hR.h4, hR.h5, hR.h6, hR.h7, hR.h8, hR.h9, hR.h10, hR.h11, fun _ => rfl, hR.h13, hR.h14, hR.h16, hR.r0, hR.r1, hR.r2, hR.ld, hR.o15, hR.o17⟩⟩
              refine RegInv.Steps.cons (fun D a w hI hD hdep K hK => ?_) ?_
              · obtain ⟨u37, u38, u39, u40, u41, u42, u43, u44, u45, u46, u47, u48, u49, u50, u51, u52, rfl, hR⟩ := hI
                have d12 : D 12 = true := hdep ⟨12, .data⟩ (by simp) rfl
                obtain rfl := hR.h12 d12
                have h15 : D 15 = false := by
                  cases h : D 15 with
                  | false => rfl
                  | true => exact absurd (hR.o15 h).2 (by rw [hD]; decide)
                have cc := (hR.r0 h15).cell (jn + 1) x HQ.out.2.1
                rw [if_pos (by rfl)]
                go_simp
                exact hK.out _ _ ⟨_, _, _, _, _, _, _, _, _, _, _, _, _, _, _, _, rfl, ⟨hR.below, hR.h0, hR.h1, hR.h2, hR.h3, hR.h4, hR.h5, hR.h6, hR.h7, hR.h8, hR.h9, hR.h10, hR.h11, hR.h12, fun _ => rfl, hR.h14, hR.h16, hR.r0, hR.r1, hR.r2, hR.ld, fun h => ⟨(hR.o15 h).1, rfl⟩, hR.o17⟩⟩
              refine RegInv.Steps.cons (fun D a w hI hD hdep K hK => ?_) ?_
              · obtain ⟨u37, u38, u39, u40, u41, u42, u43, u44, u45, u46, u47, u48, u49, u50, u51, u52, rfl, hR⟩ := hI
                have d0 : D 0 = true := hdep ⟨0, .data⟩ (by simp) rfl
                obtain rfl := hR.h0 d0
                have d1 : D 1 = true := hdep ⟨1, .data⟩ (by simp) rfl
                obtain rfl := hR.h1 d1
                rw [if_pos (by rfl)]
                go_simp
                exact hK.out _ _ ⟨_, _, _, _, _, _, _, _, _, _, _, _, _, _, _, _, rfl, ⟨hR.below, hR.h0, hR.h1, hR.h2, hR.h3, hR.h4, hR.h5, hR.h6, hR.h7, hR.h8, hR.h9, hR.h10, hR.h11, hR.h12, hR.h13, fun _ => rfl, hR.h16, hR.r0, hR.r1, hR.r2, hR.ld, hR.o15, hR.o17⟩⟩
              refine RegInv.Steps.cons (fun D a w hI hD hdep K hK => ?_) ?_
              · obtain ⟨u37, u38, u39, u40, u41, u42, u43, u44, u45, u46, u47, u48, u49, u50, u51, u52, rfl, hR⟩ := hI
                have d14 : D 14 = true := hdep ⟨14, .data⟩ (by simp) rfl
                obtain rfl := hR.h14 d14
                have d9 : D 9 = true := hdep ⟨9, .data⟩ (by simp) rfl
                obtain rfl := hR.h9 d9
                have d13 : D 13 = true := hdep ⟨13, .phase⟩ (by simp) rfl
                have rr := hR.r0 hD
                have cc := rr.cell (jn + 1) x HQ.out.2.1
                have ff := rr.free (jn + 1)
                have hs := rr.set (jn + 1) z (List.getElem?_eq_some_iff.1 HQ.out.2.1).1
                rw [HQ.out.2.2.1] at hs
                rw [if_pos (by rfl)]
                go_simp
                exact hK.out _ _ ⟨_, _, _, _, _, _, _, _, _, _, _, _, _, _, _, _, rfl, ⟨hR.below.set _ _ (by simp), hR.h0, hR.h1, hR.h2, hR.h3, hR.h4, hR.h5, hR.h6, hR.h7, hR.h8, hR.h9, hR.h10, hR.h11, hR.h12, hR.h13, hR.h14, hR.h16, fun h => absurd h (by rw [RegInv.upd_at]; decide), fun _ _ => hs, fun h => absurd (hR.o17 h) (by rw [hD]; decide), hR.ld.other _ HN.out.1 HN.out.2, fun _ => ⟨d9, d13⟩, fun _ => rfl⟩⟩
              refine RegInv.Steps.cons (fun D a w hI hD hdep K hK => ?_) ?_
              · obtain ⟨u37, u38, u39, u40, u41, u42, u43, u44, u45, u46, u47, u48, u49, u50, u51, u52, rfl, hR⟩ := hI
                have d2 : D 2 = true := hdep ⟨2, .data⟩ (by simp) rfl
                obtain rfl := hR.h2 d2
                have d4 : D 4 = true := hdep ⟨4, .data⟩ (by simp) rfl
                obtain rfl := hR.h4 d4
                rw [if_pos (by rfl)]
                go_simp
                exact hK.out _ _ ⟨_, _, _, _, _, _, _, _, _, _, _, _, _, _, _, _, rfl, ⟨hR.below, hR.h0, hR.h1, hR.h2, hR.h3, hR.h4, hR.h5, hR.h6, hR.h7, hR.h8, hR.h9, hR.h10, hR.h11, hR.h12, hR.h13, hR.h14, fun _ => rfl, hR.r0, hR.r1, hR.r2, hR.ld, hR.o15, hR.o17⟩⟩
              refine RegInv.Steps.cons (fun D a w hI hD hdep K hK => ?_) ?_
              · obtain ⟨u37, u38, u39, u40, u41, u42, u43, u44, u45, u46, u47, u48, u49, u50, u51, u52, rfl, hR⟩ := hI
                have d16 : D 16 = true := hdep ⟨16, .data⟩ (by simp) rfl
                obtain rfl := hR.h16 d16
                have d13 : D 13 = true := hdep ⟨13, .data⟩ (by simp) rfl
                obtain rfl := hR.h13 d13
                have d15 : D 15 = true := hdep ⟨15, .chain⟩ (by simp) rfl
                have rr := hR.r1 d15 hD
                have cc := rr.cell jn z HQ.out.2.2.2.1
                have ff := rr.free jn
                have hs := rr.set jn x (List.getElem?_eq_some_iff.1 HQ.out.2.2.2.1).1
                rw [HQ.out.2.2.2.2] at hs
                rw [if_pos (by rfl)]
                go_simp
                exact hK.out _ _ ⟨_, _, _, _, _, _, _, _, _, _, _, _, _, _, _, _, rfl, ⟨hR.below.set _ _ (by simp), hR.h0, hR.h1, hR.h2, hR.h3, hR.h4, hR.h5, hR.h6, hR.h7, hR.h8, hR.h9, hR.h10, hR.h11, hR.h12, hR.h13, hR.h14, hR.h16, fun h => absurd (show D 15 = false from h) (by rw [d15]; decide), fun _ h => absurd h (by rw [RegInv.upd_at]; decide), fun _ => hs, hR.ld.other _ HN.out.1 HN.out.2, hR.o15, fun _ => d15⟩⟩
              exact RegInv.Steps.nil
    · clear H HR
      have HF := Aside0.mk (show (∃ Q2 : List Nat, Row3 wr og oc Q2 ∧ Q2.Perm Q ∧ Q2.Pairwise (RR ld)) ∧ Ld wr lb ad c l ∧ OnlyIn [og] w wr from ⟨⟨P, by simpa using hrow, by simpa using hperm, hout.s⟩, hl, ho⟩)
      have d1 : decide ((i : Int) < (m : Int)) = false := decide_eq_false (by omega)
      clear hout hperm hrow hl ho
      go_wp2_with fail
      go_end0
      exact ⟨rfl, HF.out⟩
end Go.Proofs.Ytbbaonaahokidaa.Srt
