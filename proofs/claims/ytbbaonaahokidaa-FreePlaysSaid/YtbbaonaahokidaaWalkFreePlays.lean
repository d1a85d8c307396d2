/- Whatever is taken and given back: the walk of FreePlays. -/
import Derived.Test.YtbbaonaahokidaaFreeAll
import Derived.Test.YtbbaonaahokidaaOpen
namespace Go.Proofs.Ytbbaonaahokidaa.walkFreePlays
open Go.RowKit Go.Proofs.Ytbbaonaahokidaa.PFreeSizes Go.Proofs.YtbbaonaahokidaaW.PrintWords Go.Proofs.YtbbaonaahokidaaW.PrintLast Go.Proofs.YtbbaonaahokidaaW.PrintMore Go.Proofs.Ytbbaonaahokidaa.Open Go.Proofs.Ytbbaonaahokidaa.Aid Go.Proofs.Ytbbaonaahokidaa.Quiet Go.Proofs.Ytbbaonaahokidaa.Blk Go.Proofs.Ytbbaonaahokidaa.State Go.Proofs.Ytbbaonaahokidaa.Vals Go.Proofs.Ytbbaonaahokidaa.Free
set_option linter.unusedVariables false
attribute [local go_sem] max2_int min2_int max_two min_two

/-- A slice's value that reads as these numbers, in a block that is not older than B2. -/
def Row (B2 : Nat) (w : World) (v : Value) (q : List Nat) : Prop :=
  ∃ A c, v = .slice A q.length c ∧ q.length ≤ c ∧ ReadsInt w .i64 A q.length (natI q) ∧ ∀ a, A = some a → B2 ≤ a.block
theorem Row.of_own {B2 : Nat} {w : World} {v : Value} {q : List Nat} (h : w.ownsRow B2 3 1 v q.length (nums .i64 (natI q))) : Row B2 w v q := by
  obtain ⟨A, c, rfl, hr⟩ := own_reads h
  rcases h.2 with ⟨e, hn⟩ | ⟨g, cap, cur, e, hb, _, hc, _⟩
  · injection e with e1 e2 e3
    subst e1 e3
    exact ⟨none, 0, rfl, by omega, hr, fun a ha => by cases ha⟩
  · injection e with e1 e2 e3
    subst e1 e3
    exact ⟨_, _, rfl, hc, hr, fun a ha => by injection ha with ha; subst ha; exact hb⟩
theorem Row.keep {B2 : Nat} {w w' : World} {v : Value} {q : List Nat} (h : Row B2 w v q) (hk : ∀ p : Addr, p.block < w.heap.size → B2 ≤ p.block → w'.cell? p = w.cell? p) : Row B2 w' v q := by
  obtain ⟨A, c, rfl, hc, ⟨h1, h2, h3⟩, hb⟩ := h
  refine ⟨A, c, rfl, hc, ⟨h1, h2, fun hn => ?_⟩, hb⟩
  obtain ⟨ad, rfl, h4⟩ := h3 hn
  refine ⟨ad, rfl, fun j hj => ?_⟩
  have e := h4 j hj
  have hblk : (ad.add j).block = ad.block := by unfold Addr.add; split <;> rfl
  rw [hk _ (World.block_lt_of_cell? _ _ e) (by rw [hblk]; exact hb ad rfl)]
  exact e
theorem Row.below {B2 : Nat} {w w' : World} {v : Value} {q : List Nat} (h : Row B2 w v q) (hb : Below w.heap.size w w') : Row B2 w' v q :=
  h.keep fun p hp _ => hb.cell hp
theorem Row.only {B2 : Nat} {S : List Nat} {w w' : World} {v : Value} {q : List Nat} (h : Row B2 w v q) (ho : OnlyIn S w w') (hS : ∀ x ∈ S, x < B2) : Row B2 w' v q :=
  h.keep fun p hp hB => ho.cell hp (fun hm => by have := hS _ hm; omega)
/-- What holds between two statements: the numbers' state and the law's own list agree. -/
structure Inv (W : World) (B2 F gl gh k : Nat) (w : World) (A : Option Addr) (c : Nat) (q : List Nat) : Prop where
  f : FreeAt w F gl gh k q
  row : Row B2 w (.slice A q.length c) q
  below : Below W.heap.size W w
  size : B2 ≤ w.heap.size
section
variable {W : World} {B2 F gl gh k c : Nat} {w w' : World} {A : Option Addr} {q : List Nat}
theorem Inv.next (h : Inv W B2 F gl gh k w A c q) (hb : Below w.heap.size w w') : Inv W B2 F gl gh k w' A c q :=
  ⟨h.f.below' hb, h.row.below hb, h.below.trans (hb.mono h.below.size), Nat.le_trans h.size hb.size⟩
theorem Inv.drewN (h : Inv W B2 F gl gh k w A c q) (n : Nat) : Inv W B2 F gl gh k (w.drewN n) A c q := h.next (below_drewN (Below.refl _ _) n)
theorem Inv.parts (h : Inv W B2 F gl gh k w A c q) : q.length ≤ c ∧ ReadsInt w .i64 A q.length (natI q) ∧ ∀ a, A = some a → B2 ≤ a.block := by
  obtain ⟨A', c', e, hc, hr, hb⟩ := h.row
  injection e with e1 e2 e3
  subst e1 e3
  exact ⟨hc, hr, hb⟩
theorem Inv.cell (h : Inv W B2 F gl gh k w A c q) (j : Nat) (hj : j < q.length) : ∃ ad, A = some ad ∧ w.cell? (ad.add j) = some (.int .i64 (q[j] : Int)) := by
  obtain ⟨ad, hA, hc⟩ := h.parts.2.1.2.2 (by omega)
  refine ⟨ad, hA, ?_⟩
  rw [hc j hj]
  simp [natI, List.getD_eq_getElem?_getD, hj]
theorem Inv.short (h : Inv W B2 F gl gh k w A c q) : q.length ≤ k := h.f.short
end
/-- What does not change. -/
structure Fix (W : World) (B2 F gl gh k : Nat) : Prop where
  lt : F < B2 ∧ gl < B2 ∧ gh < B2
  ge : W.heap.size ≤ F ∧ W.heap.size ≤ gl ∧ W.heap.size ≤ gh
  k : k ≤ 15
/-- Loop 1's state. -/
def Filled (W : World) (B2 F gl gh k : Nat) (w2 w : World) (v : Value) (j : Nat) : Prop :=
  j ≤ k ∧ w.ownsRow B2 3 1 v (natI (List.range j)).length (nums .i64 (natI (List.range j))) ∧ Below B2 w2 w
theorem range_snoc (j : Nat) : natI (List.range j) ++ [(j : Int)] = natI (List.range (j + 1)) := by
  unfold natI; rw [List.range_succ, List.map_append]; rfl
/-- 'xs[1:]'. -/
theorem cut1 (A : Option Addr) (n c : Nat) (hn : 1 ≤ n) : ∃ A' : Option Addr, (∀ W : World, (Instr.slice 25 (.slice A n c) (some (.int .i64 1)) none none).run Try.prog W = .ok (.slice A' (n - 1) (c - 1)) W) ∧
    (∀ (w : World) (xs : List Int), n ≤ c → ReadsInt w .i64 A n xs → ReadsInt w .i64 A' (n - 1) (xs.drop 1)) ∧ ∀ a', A' = some a' → ∃ a, A = some a ∧ a.block = a'.block := by
  refine ⟨if c = 1 then A else A.map (·.add 1), fun W => ?_, fun w xs hc h => h.drop_ 1 hn hc, fun a' h => ?_⟩
  · obtain ⟨i0, hi, hz⟩ := Option.map_eq_some_iff.1 info3
    simp only [Prod.mk.injEq] at hz
    have ht : Try.prog.underlying 25 = some (.slice 3) := Try.underlying25
    have hel : Try.prog.elem 25 = 3 := by simp [Program.elem, ht]
    have hu : Try.prog.underlying 25 = some (.slice (Try.prog.elem 25)) := by rw [hel]; exact ht
    rw [run_slice_l W 25 A n c hu .i64 (1 : Int) (by omega) (by omega), hel]
    simp [sizeOf, typeInfo, hi, hz.2.1, sliced, Result.andThen]
  · split at h
    · exact ⟨a', h, rfl⟩
    · cases A with
      | none => simp at h
      | some a =>
        simp at h
        exact ⟨a, rfl, by rw [← h]; unfold Addr.add; simp⟩
theorem anyD (q : List Nat) (x : Int) (j : Nat) (h : j < q.length) (b : Bool) (hb : b = decide ((q[j] : Int) = x)) (bad : Bool) :
    (bad || (q.take (j + 1)).any fun y => decide ((y : Int) = x)) = ((bad || (q.take j).any fun y => decide ((y : Int) = x)) || b) := by
  rw [List.take_succ_eq_append_getElem h, List.any_append, hb]
  simp [Bool.or_assoc]

set_option maxHeartbeats 8000000 in
set_option maxRecDepth 100000 in
theorem core (a0 : Int) (k : Nat) (A1 : Option Addr) (l : List (Pts [.bool, .int .i64])) (c : Nat) (W : World) (hk : Go.bits .and .i64 a0 15 = (k : Int)) (hk1 : k ≤ 15) (hl : l.length ≤ 9223372036854775807)
    (ro : ∀ i (h : i < l.length), ∃ a, A1 = some a ∧ W.cell? (a.add (i * 2)) = some (.bool (l[i]).1) ∧ W.cell? ⟨(a.add (i * 2)).block, (a.add (i * 2)).off + 1, none⟩ = some (.int .i64 (l[i]).2.1)) :
    Calls Try.prog 3 #[.int .i64 a0, .slice A1 l.length c] W fun e W' => e = .returned (.bool true) ∧ Below W.heap.size W W' := by
  have HR := Aside0.mk ro
  have HN := Aside0.mk (new_at (k : Int) k W (by unfold mn mx; rw [if_neg (by omega), if_neg (by omega)]))
  clear ro
  go_enter Try.func3, Try.ntmps3
  go_wp2_with (first | (go_at_call 15; with_reducible refine HN.out.mono ?_; rintro e w2 ⟨rfl, hB, gl, gh, hgl, hgh, hF⟩))
  obtain ⟨F, hFe⟩ : ∃ F, W.heap.size + 2 = F := ⟨_, rfl⟩
  rw [hFe] at hF ⊢
  have hlt := hF.lt
  have FX := Aside0.mk (show Fix W w2.heap.size F gl gh k from ⟨⟨hlt _ (by simp), hlt _ (by simp), hlt _ (by simp)⟩, by omega, hk1⟩)
  obtain ⟨B2, hB2⟩ : ∃ B2, w2.heap.size = B2 := ⟨_, rfl⟩
  have FX2 := Aside0.mk (hB2 ▸ FX.out)
  have HF := Aside0.mk hF
  have HB := Aside0.mk hB
  have HS := Aside0.mk hB2
  have HK := Aside0.mk hk1
  have HLEN := Aside0.mk hl
  clear FX hlt hgl hgh hFe hF hB hk1 HN hl
  have H0 := Aside0.mk (show Filled W B2 F gl gh k w2 (w2.alloc (.cells #[] 3)) (.slice (some ⟨w2.heap.size, 0, none⟩) 0 0) 0 from
    ⟨by omega, own_lit w2 B2 3 .i64 [] (by omega) (by simp), by rw [← hB2]; exact (Below.refl _ _).alloc (Nat.le_refl _) _⟩)
  clear hB2
  go_wp2_with fail
  go_loopg [7, 8] k (fun g m i wx => ∃ j : Nat, g + j = k ∧ i = .int .i64 j ∧ Filled W B2 F gl gh k w2 wx m j)
  case atStart => exact ⟨0, rfl, rfl, H0.out⟩
  case round =>
    clear H0
    obtain ⟨j, hj, rfl, hfill⟩ := hrel
    have HFL := Aside0.mk hfill
    have HJ := Aside0.mk hj
    clear hfill hj
    by_cases hlt : j < k
    · have d1 : decide ((j : Int) < (k : Int)) = true := decide_eq_true (by omega)
      have hj15 : j ≤ 15 := by have := HK.out; omega
      have HE := Aside0.mk (range_snoc j)
      have HZ := Aside0.mk (show B2 ≤ wr.heap.size by have := HFL.out.2.2.size; have := HS.out; omega)
      go_wp2_with (first | ((with_reducible refine gate_builtin (b := .append) (xs := #[.tmp 27, .tmp 29]) rfl ?_); at_builtin; refine print_append_num (w0 := w2) B2 rfl (.tmp 27) (.tmp 29) 25 3 .i64 8 rfl Try.underlying25 info3 (by decide) u7 (natI (List.range j)) (j : Int) rfl rfl HFL.out.2.1 HFL.out.2.2 HZ.out (by simp [natI]; have := HK.out; omega) ?_; intro v1 w1 ho hb hg hat; clear hg hat; rw [HE.out] at ho))
      go_roundg (k - (j + 1))
      case measure => have := HJ.out; omega
      case rel => exact ⟨j + 1, by have := HJ.out; omega, by have := HK.out; go_num, by omega, ho, hb⟩
    · have d1 : decide ((j : Int) < (k : Int)) = false := decide_eq_false (by omega)
      obtain rfl : j = k := by have := HFL.out.1; omega
      have HI := Aside0.mk (show FreeAt wr F gl gh j (List.range j) ∧ Row B2 wr u7 (List.range j) ∧ Below W.heap.size W wr ∧ B2 ≤ wr.heap.size from
        ⟨HF.out.below HFL.out.2.2 FX2.out.lt, Row.of_own (by have := HFL.out.2.1; simpa [natI] using this), HB.out.trans (HFL.out.2.2.mono (by have := FX2.out.lt; have := FX2.out.ge; omega)), by have := HFL.out.2.2.size; have := HS.out; omega⟩)
      clear HFL HJ HF HB HS
      go_wp2_with fail
      obtain ⟨A0, c0, rfl, hI0⟩ : ∃ A0 c0, u7 = .slice A0 (List.range j).length c0 ∧ Inv W B2 F gl gh j wr A0 c0 (List.range j) := by
        have h := HI.out
        obtain ⟨hf, hr, hb, hs⟩ := h
        obtain ⟨A0, c0, e, hrest⟩ := hr
        exact ⟨A0, c0, e, hf, ⟨A0, c0, rfl, hrest⟩, hb, hs⟩
      clear HI
      have HI := Aside0.mk hI0
      clear hI0
      rw [List.length_range] at *
      go_wp2_with fail
      go_loopg [7, 9] (min l.length 80) (fun g m i wx => ∃ (t : Nat) (q : List Nat) (A : Option Addr) (c : Nat), g + t = min l.length 80 ∧ i = .int .i64 t ∧ m = .slice A q.length c ∧ Inv W B2 F gl gh j wx A c q)
      case atStart => exact ⟨0, List.range j, A0, c0, rfl, rfl, by rw [List.length_range], HI.out⟩
      case round =>
        clear HI d1 hlt
        obtain ⟨t, q, A, c2, ht, rfl, rfl, hI⟩ := hrel
        have HI := Aside0.mk hI
        have HT := Aside0.mk ht
        clear hI ht
        by_cases hlt : t < l.length ∧ t < 80
        · obtain ⟨hlt, h80⟩ := hlt
          have d1 : decide ((t : Int) < (l.length : Int)) = true := decide_eq_true (by omega)
          have d2 : decide ((t : Int) < 80) = true := decide_eq_true (by omega)
          obtain ⟨a, rfl, ca, cb⟩ := HR.out t hlt
          obtain ⟨gv, hgv⟩ : ∃ gv, (l[t]).1 = gv := ⟨_, rfl⟩
          obtain ⟨x0, hx0⟩ : ∃ x0, (l[t]).2.1 = x0 := ⟨_, rfl⟩
          rw [hgv] at ca
          rw [hx0] at cb
          have ha := World.block_lt_of_cell? _ _ ca
          have cw := (HI.out.below.cell (p := a.add (t * 2)) ha).trans ca
          have dw := (HI.out.below.cell (p := ⟨(a.add (t * 2)).block, (a.add (t * 2)).off + 1, none⟩) ha).trans cb
          clear hgv hx0 ca cb ha
          obtain ⟨r4, hr4⟩ : ∃ r : Nat, Go.bits .and .i64 (t : Int) 3 = (r : Int) := ⟨t % 4, by rw [i64_and3]; omega⟩
          go_upto_if 48 with fail
          go_cut [10] from 31 to 163 (fun s w => (∃ x : Int, s = .int .i64 x) ∧ wr = w)
          case first =>
            by_cases hr0 : 0 < r4
            · have d3 : decide (0 < (r4 : Int)) = true := decide_eq_true (by omega)
              go_wp2_with fail
              go_meet
              exact ⟨⟨_, rfl⟩, rfl⟩
            · have d3 : decide (0 < (r4 : Int)) = false := decide_eq_false (by omega)
              go_wp2_with fail
              go_meet
              exact ⟨⟨_, rfl⟩, rfl⟩
          case rest =>
            obtain ⟨⟨x, rfl⟩, rfl⟩ := hcut
            clear hr4 dw
            go_upto_if 59 with fail
            clear cw
            go_cut [7, 11, 12, 13, 14] from 31 to 163 (fun m h1 h2 h3 h4 w => ∃ (q : List Nat) (A : Option Addr) (c : Nat), m = .slice A q.length c ∧ Inv W B2 F gl gh j w A c q)
            case first =>
              cases gv
              · cases q with
                | nil =>
                  go_wp2_with fail
                  refine (take_not F gl gh j _ HI.out.f).mono ?_
                  rintro e w5 ⟨rfl, n5, rfl⟩
                  go_wp2_with fail
                  go_meet
                  case rel => exact ⟨[], A, c2, rfl, HI.out.drewN _⟩
                | cons y tl =>
                  obtain ⟨ad, rfl, cm⟩ := HI.out.cell 0 (by simp)
                  obtain ⟨A', hcut, hrd, hblk⟩ := cut1 (some ad) (tl.length + 1) c2 (by omega)
                  have HRD := Aside0.mk hrd
                  have HBLK := Aside0.mk hblk
                  have HPT := Aside0.mk HI.out.parts
                  simp only [List.getElem_cons_zero, List.length_cons] at cm ⊢
                  obtain ⟨n, hn⟩ : ∃ n, tl.length = n := ⟨_, rfl⟩
                  rw [hn] at hcut ⊢
                  have HN := Aside0.mk hn
                  have e1 : decide ((0 : Int) < ((n + 1 : Nat) : Int)) = true := decide_eq_true (by omega)
                  clear hrd hblk hn
                  go_wp2_with fail
                  refine (take_at F gl gh j y tl _ HI.out.f).mono ?_
                  rintro e w5 ⟨rfl, hF5, hO5⟩
                  have hS5 : ∀ b ∈ [F, gl, gh], b < B2 := by have := FX2.out.lt; simp; omega
                  have B5 := Aside0.mk (hO5.below HI.out.below (by have := FX2.out.ge; simp; omega) HI.out.below.size)
                  have Z5 := Aside0.mk (Nat.le_trans HI.out.size hO5.size)
                  have R5 := Aside0.mk (Row.only HI.out.row hO5 hS5)
                  have F5 := Aside0.mk hF5
                  have hb0 := HPT.out.2.2 ad rfl
                  have hlt5 := World.block_lt_of_cell? _ _ cm
                  have hblk0 : (ad.add 0).block = ad.block := by unfold Addr.add; split <;> rfl
                  have cm5 : w5.cell? (ad.add 0) = some (.int .i64 (y : Int)) := (hO5.cell hlt5 (fun hm => by have := hS5 _ hm; omega)).trans cm
                  have cm6 : w5.cell? ad = some (.int .i64 (y : Int)) := by have h := cm5; unfold Addr.add at h; simpa using h
                  clear hF5 hO5 hS5 cm hlt5 hblk0 hb0
                  go_wp2_with fail
                  go_meet
                  case rel =>
                    have hr5 : ReadsInt w5 .i64 (some ad) (tl.length + 1) (natI (y :: tl)) := by
                      obtain ⟨A', c', e, hc, hr, hb⟩ := R5.out
                      injection e with e1 e2 e3
                      subst e1
                      exact hr
                    have hc := HPT.out.1
                    have hr6 := HRD.out w5 _ hc hr5
                    refine ⟨tl, A', c2 - 1, by rw [HN.out], F5.out, ⟨A', c2 - 1, rfl, by simp at hc; omega, by simpa [natI] using hr6, fun a' ha' => ?_⟩, B5.out, Z5.out⟩
                    obtain ⟨a0, e0, e1⟩ := HBLK.out a' ha'
                    rw [← e1]
                    exact HPT.out.2.2 a0 e0
              · obtain ⟨bad, hbad⟩ : ∃ b, b = decide (x < 0 ∨ (j : Int) ≤ x) := ⟨_, rfl⟩
                go_upto_region 14 with fail
                go_cut [11] from 31 to 163 (fun s w => s = .bool bad ∧ wr = w)
                case first =>
                  by_cases h1 : x < 0
                  · have e1 : decide (x < 0) = true := decide_eq_true h1
                    obtain rfl : bad = true := by rw [hbad]; simp [h1]
                    clear h1 hbad
                    go_wp2_with fail
                    go_meet
                    exact ⟨rfl, rfl⟩
                  · have e1 : decide (x < 0) = false := decide_eq_false h1
                    obtain ⟨b2, hb2⟩ : ∃ b, decide ((j : Int) ≤ x) = b := ⟨_, rfl⟩
                    obtain rfl : bad = b2 := by rw [hbad, ← hb2]; simp [h1]
                    clear hbad h1
                    go_wp2_with fail
                    go_meet
                    exact ⟨rfl, rfl⟩
                case rest =>
                  obtain ⟨rfl, rfl⟩ := hcut
                  have HBAD := Aside0.mk hbad
                  clear hbad
                  go_wp2_with fail
                  go_loopg [11, 12] q.length (fun g h jx w => ∃ jj, g + jj = q.length ∧ jx = .int .i64 (jj : Int) ∧ h = .bool (bad || (q.take jj).any fun y => decide ((y : Int) = x)) ∧ Inv W B2 F gl gh j w A c2 q)
                  case atStart => exact ⟨0, rfl, rfl, by simp, HI.out⟩
                  case round =>
                    obtain ⟨jj, hjj, rfl, rfl, hI⟩ := hrel
                    have HI2 := Aside0.mk hI
                    have HJJ := Aside0.mk hjj
                    clear HI hI hjj
                    by_cases hin : jj < q.length
                    · have e1 : decide ((jj : Int) < (q.length : Int)) = true := decide_eq_true (by omega)
                      obtain ⟨ad, rfl, cm⟩ := HI2.out.cell jj hin
                      obtain ⟨y, hy⟩ : ∃ y : Int, (q[jj] : Int) = y := ⟨_, rfl⟩
                      rw [hy] at cm
                      obtain ⟨b1, hb1⟩ : ∃ b, (y == x) = b := ⟨_, rfl⟩
                      have HS := Aside0.mk (anyD q x jj hin b1 (by rw [← hb1, hy]; rfl) bad)
                      have HQL := Aside0.mk (show q.length ≤ 15 by have := HI2.out.short; have := FX2.out.k; omega)
                      have hjj15 : jj ≤ 15 := by have := HQL.out; omega
                      obtain ⟨hs0, hhs0⟩ : ∃ b, (bad || (q.take jj).any fun y => decide ((y : Int) = x)) = b := ⟨_, rfl⟩
                      rw [hhs0] at HS ⊢
                      clear hhs0 hy
                      cases hs0
                      · go_wp2_with fail
                        go_roundg (q.length - (jj + 1))
                        case measure => have := HJJ.out; omega
                        case rel => exact ⟨jj + 1, by have := HJJ.out; omega, by go_num, by rw [HS.out]; simp, HI2.out⟩
                      · go_wp2_with fail
                        go_roundg (q.length - (jj + 1))
                        case measure => have := HJJ.out; omega
                        case rel => exact ⟨jj + 1, by have := HJJ.out; omega, by go_num, by rw [HS.out]; simp, HI2.out⟩
                    · have e1 : decide ((jj : Int) < (q.length : Int)) = false := decide_eq_false (by omega)
                      rw [List.take_of_length_le (by omega)]
                      obtain ⟨hs0, hhs0⟩ : ∃ b, (bad || q.any fun y => decide ((y : Int) = x)) = b := ⟨_, rfl⟩
                      rw [hhs0]
                      have HHS := Aside0.mk hhs0
                      clear hhs0
                      cases hs0
                      · have hx : 0 ≤ x ∧ x < (j : Int) ∧ x.toNat ∉ q := by
                          have h := HHS.out
                          rw [HBAD.out] at h
                          simp at h
                          obtain ⟨⟨h1, h2⟩, h3⟩ := h
                          refine ⟨h1, h2, fun hm => h3 _ hm ?_⟩
                          omega
                        obtain ⟨xn, rfl⟩ := Int.eq_ofNat_of_zero_le hx.1
                        have HX := Aside0.mk hx
                        clear hx
                        go_wp2_with fail
                        refine (give_at F gl gh j q xn _ HI2.out.f (by have := HX.out.2.1; omega) (by simpa using HX.out.2.2)).mono ?_
                        rintro e w5 ⟨rfl, hF5, hO5⟩
                        have hS5 : ∀ b ∈ [F, gl, gh], b < B2 := by have := FX2.out.lt; simp; omega
                        have B5 := Aside0.mk (hO5.below HI2.out.below (by have := FX2.out.ge; simp; omega) HI2.out.below.size)
                        have Z5 := Aside0.mk (Nat.le_trans HI2.out.size hO5.size)
                        have R5 := Aside0.mk (Row.only HI2.out.row hO5 hS5)
                        have F5 := Aside0.mk hF5
                        have HQL := Aside0.mk (show q.length ≤ 15 by have := HI2.out.short; have := FX2.out.k; omega)
                        have RD := Aside0.mk (show ReadsInt w5 .i64 A q.length (natI q) by
                          obtain ⟨A', c', e, hc, hr, hb⟩ := R5.out
                          injection e with e1 e2 e3
                          subst e1
                          exact hr)
                        clear hF5 hO5 hS5 HI2
                        have L5 := Aside0.mk (own_lit w5 B2 3 .i64 [] Z5.out (by simp))
                        have RD5 := Aside0.mk (RD.out.allocS (.cells #[] 3))
                        have BB5 := Aside0.mk (show Below B2 w5 (w5.alloc (.cells #[] 3)) from (Below.refl _ _).alloc Z5.out _)
                        go_wp2_with (first
                          | ((with_reducible refine gate_builtin (b := .append) (xs := #[.tmp 89, .tmp 90]) rfl ?_); at_builtin; refine print_append_row (w0 := w5) B2 rfl (.tmp 89) (.tmp 90) 25 3 .i64 8 rfl Try.underlying25 info3 (by decide) (.slice (some ⟨w5.heap.size, 0, none⟩) 0 0) [] (natI q) A q.length c2 rfl rfl L5.out RD5.out BB5.out (by simp; have := Z5.out; omega) (by have := HQL.out; simp; omega) ?_; intro v1 w6 ho6 hb6 hg hat; clear hg hat; rw [List.nil_append] at ho6; have HO6 := Aside0.mk ho6; have HB6 := Aside0.mk hb6; clear ho6 hb6)
                          | ((with_reducible refine gate_builtin (b := .append) (xs := #[.tmp 91, .tmp 93]) rfl ?_); at_builtin; refine print_append_num (w0 := w5) B2 rfl (.tmp 91) (.tmp 93) 25 3 .i64 8 rfl Try.underlying25 info3 (by decide) v1 (natI q) (xn : Int) rfl rfl HO6.out HB6.out (by have := HB6.out.size; have := Z5.out; omega) (by have := HQL.out; simp [natI]; omega) ?_; intro v2 w7 ho7 hb7 hg hat; clear hg hat; have HO7 := Aside0.mk ho7; have HB7 := Aside0.mk hb7; clear ho7 hb7))
                        go_meet
                        case rel =>
                          have ho : w7.ownsRow B2 3 1 v2 (q ++ [xn]).length (nums .i64 (natI (q ++ [xn]))) := by
                            have := HO7.out
                            simpa [natI] using this
                          obtain ⟨A7, c7, rfl, hrest⟩ := Row.of_own ho
                          exact ⟨q ++ [xn], A7, c7, rfl, F5.out.below HB7.out FX2.out.lt, ⟨A7, c7, rfl, hrest⟩, B5.out.trans (HB7.out.mono (by have := FX2.out.lt; have := FX2.out.ge; omega)), Nat.le_trans Z5.out HB7.out.size⟩
                      · have hx : x < 0 ∨ (j : Int) ≤ x ∨ x.toNat ∈ q := by
                          have h := HHS.out
                          rw [HBAD.out] at h
                          simp at h
                          rcases h with (h | h) | ⟨y, hm, h⟩
                          · exact Or.inl h
                          · exact Or.inr (Or.inl h)
                          · exact Or.inr (Or.inr (by rw [← h]; simpa using hm))
                        have HX := Aside0.mk hx
                        clear hx
                        go_wp2_with fail
                        refine (give_not F gl gh j q x _ HI2.out.f HX.out).mono ?_
                        rintro e w5 ⟨rfl, n5, rfl⟩
                        go_wp2_with fail
                        go_meet
                        case rel => exact ⟨q, A, c2, rfl, HI2.out.drewN _⟩
            case rest =>
              obtain ⟨q', A', c3, rfl, hI⟩ := hcut
              rename_i wc
              have HI := Aside0.mk hI
              clear hI
              go_wp2_with fail
              refine (all_at F gl gh j q' _ HI.out.f).mono ?_
              rintro e w5 ⟨v5, rfl, ho5, hb5⟩
              obtain ⟨A5, c5, rfl, hr5⟩ := own_reads ho5
              have HI5 := Aside0.mk (HI.out.next hb5)
              have HR5 := Aside0.mk hr5
              clear hb5 ho5 hr5 HI
              obtain ⟨n, hn⟩ : ∃ n, q'.length = n := ⟨_, rfl⟩
              have HN := Aside0.mk hn
              have HLN := Aside0.mk (fun (w : World) (h : FreeAt w F gl gh j q') => show Calls Try.prog 19 #[.pointer (some ⟨F, 0, none⟩)] w fun r w' => r = .returned (.int .i64 (n : Int)) ∧ ∃ m, w' = w.drewN m by rw [← hn]; exact len_at F gl gh j q' w h)
              rw [hn] at HR5 ⊢
              clear hn
              go_wp2_with (first | (go_at_call 19; with_reducible refine (HLN.out _ HI5.out.f).mono ?_; rintro e w6 ⟨rfl, n6, rfl⟩))
              have HI6 := Aside0.mk (HI5.out.drewN n6)
              have HR6 := Aside0.mk (HR5.out.drewN n6)
              clear HI5 HR5 HLN
              go_loopg [16] n (fun g jx w => ∃ jj, g + jj = n ∧ jx = .int .i64 (jj : Int) ∧ Inv W B2 F gl gh j w A' c3 q' ∧ ReadsInt w .i64 A5 n (natI q'))
              case atStart => exact ⟨0, by omega, rfl, HI6.out, HR6.out⟩
              case round =>
                obtain ⟨jj, hjj, rfl, hI, hR⟩ := hrel
                have HI7 := Aside0.mk hI
                have HR7 := Aside0.mk hR
                have HJJ := Aside0.mk hjj
                clear HI6 HR6 hI hR hjj
                by_cases hin : jj < n
                · have e1 : decide ((jj : Int) < (n : Int)) = true := decide_eq_true (by omega)
                  have hin' : jj < q'.length := by have := HN.out; omega
                  have hn15 : n ≤ 15 := by have := HI7.out.short; have := FX2.out.k; have := HN.out; omega
                  obtain ⟨ad, rfl, cm⟩ := HI7.out.cell jj hin'
                  obtain ⟨ad5, rfl, hc5⟩ := HR7.out.2.2 (by omega)
                  have cm5 := hc5 jj hin
                  rw [show (natI q').getD jj 0 = (q'[jj] : Int) by simp [natI, hin']] at cm5
                  have HHAS := Aside0.mk (fun (w : World) (h : FreeAt w F gl gh j q') => show Calls Try.prog 20 #[.pointer (some ⟨F, 0, none⟩), .int .i64 (q'[jj] : Int)] w fun r w' => r = .returned (.bool true) ∧ ∃ m, w' = w.drewN m by
                    have hm : q'[jj] ∈ q' := List.getElem_mem hin'
                    have := has_at F gl gh j q' (q'[jj] : Int) w h
                    rwa [show inB j q' (q'[jj] : Int) = true from decide_eq_true ⟨by omega, by have := h.low _ hm; omega, hm⟩] at this)
                  generalize (q'[jj] : Int) = y at cm cm5 HHAS
                  have z1 := World.block_lt_of_cell? _ _ cm
                  have z2 := World.block_lt_of_cell? _ _ cm5
                  clear hc5 hin'
                  go_upto_region 34 with fail
                  refine wp_region_below (by kernel_rfl) (by kernel_rfl) ?_
                  repeat (go_big_quiet_step ((intro hw; first
                    | (with_reducible rfl)
                    | (go_at_call 20; exact q_drawn hw (HHAS.out _ (HI7.out.f.below' hw)))
                    | (have e0 := (hw.cell (p := ad.add jj) z1).trans cm
                       simp only [e0, Result.andThen_ok]; go_simp; first | rfl | exact ⟨rfl, rfl⟩)
                    | (have e0 := (hw.cell (p := ad5.add jj) z2).trans cm5
                       simp only [e0, Result.andThen_ok]; go_simp; first | rfl | exact ⟨rfl, rfl⟩))))
                  refine wpQuiet_nil ?_
                  intro W2 hb2
                  have HB2 := Aside0.mk hb2
                  clear hb2
                  go_wp2_with fail
                  go_roundg (n - (jj + 1))
                  case measure => have := HJJ.out; omega
                  case rel => exact ⟨jj + 1, by have := HJJ.out; omega, by go_num, HI7.out.next HB2.out, HR7.out.below HB2.out⟩
                · have e1 : decide ((jj : Int) < (n : Int)) = false := decide_eq_false (by omega)
                  go_wp2_with fail
                  go_roundg (min l.length 80 - (t + 1))
                  case measure => have := HT.out; omega
                  case rel => exact ⟨t + 1, q', A', c3, by have := HT.out; omega, by go_num, by rw [HN.out], HI7.out⟩
        · have HX := Aside0.mk (show (¬ t < l.length) ∨ (t < l.length ∧ ¬ t < 80) by omega)
          clear hlt
          rcases HX.out with h1 | ⟨h1, h2⟩
          · have d1 : decide ((t : Int) < (l.length : Int)) = false := decide_eq_false (by omega)
            go_wp2_with (first | (go_at_call 21; with_reducible refine (awake_calls _).mono ?_; rintro e w3 ⟨rfl, hb3⟩))
            go_ret
            exact ⟨rfl, HI.out.below.trans (hb3.mono HI.out.below.size)⟩
          · have d1 : decide ((t : Int) < (l.length : Int)) = true := decide_eq_true (by omega)
            have d2 : decide ((t : Int) < 80) = false := decide_eq_false (by omega)
            go_wp2_with (first | (go_at_call 21; with_reducible refine (awake_calls _).mono ?_; rintro e w3 ⟨rfl, hb3⟩))
            go_ret
            exact ⟨rfl, HI.out.below.trans (hb3.mono HI.out.below.size)⟩

theorem walk (a0 : Int) (A1 : Option Addr) (c1 : Nat) (l1 : List (Pts [.bool, .int .i64])) (W : World) (w0 : (Lit.int .i64 a0).wf = true) (ro1 : RowsOf W [.bool, .int .i64] A1 l1) (w1 : ∀ x ∈ l1, wfs [.bool, .int .i64] x) (lc1 : l1.length ≤ c1) (cm1 : c1 ≤ maxLen) (nn1 : A1 = none → c1 = 0) :
    Calls Try.prog 3 #[.int .i64 a0, .slice A1 l1.length c1] W fun e W' => e = .returned (.bool true) ∧ Below W.heap.size W W' := by
  refine core a0 (a0 % 16).toNat A1 l1 c1 W (by rw [i64_and15]; omega) (by omega) (by unfold maxLen at cm1; omega) (fun i hi => ?_)
  obtain ⟨a, hb, h⟩ := ro1 i hi
  have h0 := h 0 (by decide)
  have h1 := h 1 (by decide)
  refine ⟨a, hb, h0, ?_⟩
  have e : (a.add (i * 2)).add 1 = a.add (i * 2 + 1) := Open.add_add a (i * 2) 1
  have e2 : (a.add (i * 2)).add 1 = ⟨(a.add (i * 2)).block, (a.add (i * 2)).off + 1, none⟩ := rfl
  rw [← e2, e]
  exact h1
end Go.Proofs.Ytbbaonaahokidaa.walkFreePlays
