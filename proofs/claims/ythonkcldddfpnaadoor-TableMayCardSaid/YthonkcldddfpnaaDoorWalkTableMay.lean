/- Which tables may be, cells of slots, which slots' words are live: the walk of TableMay. -/
import Derived.Test.YthonkcldddfpnaaDoorTable3
import Derived.Test.YthonkcldddfpnaaDoorRegInv
import Derived.Test.YthonkcldddfpnaaDoorOpen
import Derived.Test.YthonkcldddfpnaaDoorSettleA
namespace Go.Proofs.YthonkcldddfpnaaDoor.walkTableMay
open Go.RowKit Go.Proofs.YthonkcldddfpnaaDoorW.PrintWords Go.Proofs.YthonkcldddfpnaaDoorW.PrintLast Go.Proofs.YthonkcldddfpnaaDoorW.PrintMore Go.Proofs.YthonkcldddfpnaaDoor.Open Go.Proofs.YthonkcldddfpnaaDoor.Aid Go.Proofs.YthonkcldddfpnaaDoor.Quiet Go.Proofs.YthonkcldddfpnaaDoor.Blk Go.Proofs.YthonkcldddfpnaaDoor.State Go.Proofs.YthonkcldddfpnaaDoor.Vals Go.Proofs.YthonkcldddfpnaaDoor.SlotF Go.Proofs.YthonkcldddfpnaaDoor.Free Go.Proofs.YthonkcldddfpnaaDoor.Table
set_option linter.unusedVariables false
set_option linter.unusedSimpArgs false

def XRow (w : World) (A : Option Addr) (l : List Int) : Prop := ∀ i (h : i < l.length), ∃ ad, A = some ad ∧ w.cell? (ad.add i) = some (.int .i64 l[i])
/-- Whether a table may be. -/
def isB (b s g : Int) : Bool := decide (1 ≤ s) && decide (s ≤ 16) && decide (0 ≤ b) && decide (b ≤ 16384 - s) && decide (1 ≤ g) && decide (g ≤ 16777215)
theorem may_f (b s g : Int) : PTableMay.table_May.f b s g = some (isB b s g) := by
  unfold PTableMay.table_May.f isB
  by_cases h1 : 1 ≤ s
  · rw [if_pos h1, decide_eq_true h1]
    by_cases h2 : s ≤ 16
    · rw [if_pos h2, decide_eq_true h2, w64 _ (by omega) (by omega)]
      by_cases h3 : 0 ≤ b
      · rw [if_pos h3, decide_eq_true h3]
        by_cases h4 : b ≤ 16384 - s
        · rw [if_pos h4, decide_eq_true h4]
          by_cases h5 : 1 ≤ g
          · rw [if_pos h5, decide_eq_true h5]; simp
          · rw [if_neg h5, decide_eq_false h5]; simp
        · rw [if_neg h4, decide_eq_false h4]; simp
      · rw [if_neg h3, decide_eq_false h3]; simp
    · rw [if_neg h2, decide_eq_false h2]; simp
  · rw [if_neg h1, decide_eq_false h1]; simp
/-- The word that slot i gets; how it stands. -/
def sN (l : List Int) (i : Nat) : Nat := ((l[i]?.getD 0) / 8 % 4).toNat
def wdN (l : List Int) (i : Nat) : Nat := wordN ((l[i]?.getD 0) % 8).toNat (sN l i)
def liveL (l : List Int) (i : Nat) : Bool := decide (sN l i = 1 ∨ sN l i = 2)
def VV (l : List Int) (j : Nat) : List Int := (List.range 8).map fun a => if 1 ≤ a ∧ a - 1 < j then (wdN l (a - 1) : Int) else 0
theorem VV_zero (l : List Int) : VV l 0 = List.replicate 8 0 := by
  unfold VV
  apply List.ext_getElem
  · simp
  · intro i h1 h2
    rw [List.getElem_map, List.getElem_replicate, if_neg (by omega)]
theorem VV_set (l : List Int) (j : Nat) (h : j < 4) : (VV l j).set (1 + j) (wdN l j : Int) = VV l (j + 1) := by
  apply List.ext_getElem
  · simp [VV]
  · intro a h1 h2
    simp only [VV, List.length_map, List.length_range] at h2
    simp only [VV, List.getElem_set, List.getElem_map, List.getElem_range]
    by_cases ha : 1 + j = a
    · subst ha
      simp
    · rw [if_neg ha]
      by_cases hc : 1 ≤ a ∧ a - 1 < j
      · rw [if_pos hc, if_pos ⟨hc.1, by omega⟩]
      · rw [if_neg hc, if_neg (by omega)]
theorem VV_get (l : List Int) (j i : Nat) (h : i < 4) : (VV l j)[1 + i]?.getD 0 = ((if i < j then wdN l i else 0 : Nat) : Int) := by
  unfold VV
  rw [List.getElem?_map, List.getElem?_range (by omega)]
  simp only [Option.map_some, Option.getD_some]
  rw [show 1 + i - 1 = i by omega]
  by_cases hi : i < j
  · rw [if_pos ⟨by omega, hi⟩, if_pos hi]
  · rw [if_neg (by omega), if_neg hi]
    rfl
def liveJ (l : List Int) (j i : Nat) : Bool := decide (i < j) && liveL l i
theorem live_word (l : List Int) (j i : Nat) : decide (stN (if i < j then wdN l i else 0) = 1 ∨ stN (if i < j then wdN l i else 0) = 2) = liveJ l j i := by
  unfold liveJ
  by_cases hi : i < j
  · rw [if_pos hi, decide_eq_true hi, Bool.true_and]
    unfold wdN liveL
    rw [wordN_st, Nat.min_eq_left (show sN l i ≤ 3 by unfold sN; omega)]
  · rw [if_neg hi, decide_eq_false hi, Bool.false_and]
    have : stN 0 = 0 := rfl
    rw [this]
    rfl
theorem cnt4 (l : List Int) (j : Nat) (h : j ≤ 4) : cntB (liveJ l j) 4 = cntB (liveL l) j := by
  have h5 : j = 0 ∨ j = 1 ∨ j = 2 ∨ j = 3 ∨ j = 4 := by omega
  rcases h5 with rfl | rfl | rfl | rfl | rfl <;> simp [cntB, List.range_succ, List.countP_append, List.countP_cons, liveJ]
theorem wdN_lt (l : List Int) (i : Nat) : wdN l i < 2 ^ 64 := wordN_lt _ _
structure RM (W : World) (B2 ga gc u i c wd kk : Nat) (ad : Addr) (l : List Int) (x x8 : Int) (x7 sx : Nat) (vals vals2 : List Int) (w0 : World) (D : Nat → Bool) (u63 u64 u65 u66 u67 u68 u69 u70 u71 u72 u73 u74 u75 u76 u77 u78 u79 : Value) (w : World) : Prop where
  below : Below w0.heap.size w0 w
  h0 : D 0 = true → u63 = .pointer (some ⟨ga, 0, none⟩)
  h1 : D 1 = true → u64 = .pointer (some ⟨u, 0, none⟩)
  h2 : D 2 = true → u65 = .int .i64 (i : Int)
  h3 : D 3 = true → u66 = .int .i64 (1 + (i : Int))
  h4 : D 4 = true → u67 = .slice (some ad) l.length c
  h5 : D 5 = true → u68 = .int .i64 (i : Int)
  h6 : D 6 = true → u69 = .pointer (some (ad.add i))
  h7 : D 7 = true → u70 = .int .i64 x
  h8 : D 8 = true → u71 = .int .i64 (x7 : Int)
  h9 : D 9 = true → u72 = .slice (some ad) l.length c
  h10 : D 10 = true → u73 = .int .i64 (i : Int)
  h11 : D 11 = true → u74 = .pointer (some (ad.add i))
  h12 : D 12 = true → u75 = .int .i64 x
  h13 : D 13 = true → u76 = .int .i64 x8
  h14 : D 14 = true → u77 = .int .i64 (sx : Int)
  h15 : D 15 = true → u78 = .int .u64 (wd : Int)
  a0 : D 16 = false → Settle.AS W B2 ga gc 8 w vals kk []
  a1 : D 16 = true → Settle.AS W B2 ga gc 8 w vals2 (kk + 1) []
set_option maxHeartbeats 8000000 in
set_option maxRecDepth 100000 in
theorem core (b s g : Int) (A : Option Addr) (l : List Int) (c : Nat) (W : World) (gl : LaidSlot.Cells W) (hln : l.length ≤ 9223372036854775807) (ro : XRow W A l) :
    Calls Tryd.prog 12 #[.agg #[.int .i64 b, .int .i64 s, .int .i64 g], .slice A l.length c] W fun e W' => e = .returned (.bool true) ∧ Below W.heap.size W W' := by
  have hu70 := Tryd.underlying70
  have hz := Slot.Cells.size gl
  have GL := Aside0.mk gl
  have RO := Aside0.mk ro
  obtain ⟨is, his⟩ : ∃ x, isB b s g = x := ⟨_, rfl⟩
  have HIS := Aside0.mk (show is = (decide (1 ≤ s) && decide (s ≤ 16) && decide (0 ≤ b) && decide (b ≤ 16384 - s) && decide (1 ≤ g) && decide (g ≤ 16777215)) from his.symm)
  have HMF := Aside0.mk (show PTableMay.table_May.f b s g = some is from his ▸ may_f b s g)
  clear gl ro his
  go_enter Tryd.func12, Tryd.ntmps12
  go_upto_region 1 with fail
  obtain ⟨xb, hxb⟩ : ∃ x, W.heap.size = x := ⟨_, rfl⟩
  have HX := Aside0.mk (show HoldsV 70 (W.alloc (.cells #[.int .i64 b, .int .i64 s, .int .i64 g] 70)) xb [.int .i64 b, .int .i64 s, .int .i64 g] by rw [← hxb]; exact heap_new _ _)
  have B1 := Aside0.mk ((Below.refl W.heap.size W).alloc (Nat.le_refl _) (.cells #[.int .i64 b, .int .i64 s, .int .i64 g] 70))
  obtain ⟨w1, hw1⟩ : ∃ ww, W.alloc (.cells #[.int .i64 b, .int .i64 s, .int .i64 g] 70) = ww := ⟨_, rfl⟩
  rw [hw1] at HX B1 ⊢
  try simp only [hxb]
  have c0 := HX.out.cell 0
  have c1 := HX.out.cell 1
  have c2 := HX.out.cell 2
  simp only [List.getElem?_cons_zero, List.getElem?_cons_succ] at c0 c1 c2
  clear hw1 hxb
  go_cut [5] from 16 to 46 (fun v wx => v = .bool is ∧ Below w1.heap.size w1 wx)
  case first =>
    by_cases h0 : 1 ≤ s
    · have e0 : decide (1 ≤ s) = true := decide_eq_true h0
      by_cases h1 : s ≤ 16
      · have e1 : decide (s ≤ 16) = true := decide_eq_true h1
        have kw : IntKind.i64.wrap (16384 - s) = 16384 - s := by rw [IntKind.wrap_i64]; omega
        by_cases h2 : 0 ≤ b
        · have e2 : decide (0 ≤ b) = true := decide_eq_true h2
          by_cases h3 : b ≤ 16384 - s
          · have e3 : decide (b ≤ 16384 - s) = true := decide_eq_true h3
            by_cases h4 : 1 ≤ g
            · have e4 : decide (1 ≤ g) = true := decide_eq_true h4
              by_cases h5 : g ≤ 16777215
              · have e5 : decide (g ≤ 16777215) = true := decide_eq_true h5
                obtain rfl : is = true := by rw [HIS.out]; simp [h0, h1, h2, h3, h4, h5]
                clear HIS h0 h1 h2 h3 h4 h5
                go_wp2_with fail
                go_meet
                exact ⟨rfl, by first | exact Below.refl _ _ | exact below_drewN (Below.refl _ _) _⟩
              · have e5 : decide (g ≤ 16777215) = false := decide_eq_false h5
                obtain rfl : is = false := by rw [HIS.out]; simp [h5]
                clear HIS h0 h1 h2 h3 h4 h5
                go_wp2_with fail
                go_meet
                exact ⟨rfl, by first | exact Below.refl _ _ | exact below_drewN (Below.refl _ _) _⟩
            · have e4 : decide (1 ≤ g) = false := decide_eq_false h4
              obtain rfl : is = false := by rw [HIS.out]; simp [h4]
              clear HIS h0 h1 h2 h3 h4
              go_wp2_with fail
              go_meet
              exact ⟨rfl, by first | exact Below.refl _ _ | exact below_drewN (Below.refl _ _) _⟩
          · have e3 : decide (b ≤ 16384 - s) = false := decide_eq_false h3
            obtain rfl : is = false := by rw [HIS.out]; simp [h3]
            clear HIS h0 h1 h2 h3
            go_wp2_with fail
            go_meet
            exact ⟨rfl, by first | exact Below.refl _ _ | exact below_drewN (Below.refl _ _) _⟩
        · have e2 : decide (0 ≤ b) = false := decide_eq_false h2
          obtain rfl : is = false := by rw [HIS.out]; simp [h2]
          clear HIS h0 h1 h2
          go_wp2_with fail
          go_meet
          exact ⟨rfl, by first | exact Below.refl _ _ | exact below_drewN (Below.refl _ _) _⟩
      · have e1 : decide (s ≤ 16) = false := decide_eq_false h1
        obtain rfl : is = false := by rw [HIS.out]; simp [h1]
        clear HIS h0 h1
        go_wp2_with fail
        go_meet
        exact ⟨rfl, by first | exact Below.refl _ _ | exact below_drewN (Below.refl _ _) _⟩
    · have e0 : decide (1 ≤ s) = false := decide_eq_false h0
      obtain rfl : is = false := by rw [HIS.out]; simp [h0]
      clear HIS h0
      go_wp2_with fail
      go_meet
      exact ⟨rfl, by first | exact Below.refl _ _ | exact below_drewN (Below.refl _ _) _⟩
  case rest =>
    obtain ⟨rfl, hb0⟩ := hcut
    rename_i wc
    have HX2 := Aside0.mk (HX.out.below' hb0)
    have B2' := Aside0.mk (B1.out.trans (hb0.mono B1.out.size))
    have d0 := HX2.out.cell 0
    have d1 := HX2.out.cell 1
    have d2 := HX2.out.cell 2
    simp only [List.getElem?_cons_zero, List.getElem?_cons_succ] at d0 d1 d2
    clear c0 c1 c2 hb0 HX B1
    have NEW := Aside0.mk (show Calls Tryd.prog 37 #[.agg #[.int .i64 b, .int .i64 s, .int .i64 g]] wc fun r w' => ∃ tp : Option Addr, r = .returned (.pointer tp) ∧ Below wc.heap.size wc w' ∧ ((is = false ∧ tp = none) ∨ (is = true ∧ ∃ (t f fl fh k : Nat), tp = some ⟨t, 0, none⟩ ∧ s = (k : Int) ∧ Tb w' t f fl fh b g k (List.range k) (List.replicate 16 false) 0)) from by
      cases his : is
      · refine (new_nil b s g wc (his ▸ HMF.out)).mono ?_
        rintro r w' ⟨h1, h2⟩
        exact ⟨none, h1, h2, Or.inl ⟨rfl, rfl⟩⟩
      · have h3 : isB b s g = true := by have h := HMF.out; rw [may_f, his] at h; exact Option.some.inj h
        simp only [isB, Bool.and_eq_true, decide_eq_true_eq] at h3
        obtain ⟨k, rfl⟩ := Int.eq_ofNat_of_zero_le (show 0 ≤ s by omega)
        refine (new_at b g k wc (his ▸ HMF.out) (by omega) (by omega)).mono ?_
        rintro r w' ⟨t, f, fl, fh, h1, h2, _, h4⟩
        exact ⟨some ⟨t, 0, none⟩, h1, h4, Or.inr ⟨rfl, t, f, fl, fh, k, rfl, rfl, h2⟩⟩)
    go_wp2_with fail
    refine NEW.out.mono ?_
    rintro e w2 ⟨tp, rfl, hb, htp⟩
    have HX3 := Aside0.mk (HX2.out.below' hb)
    have B3 := Aside0.mk (B2'.out.trans (hb.mono B2'.out.size))
    have HTP := Aside0.mk htp
    clear hb htp NEW HX2 B2' d0 d1 d2
    go_upto_region 4 with fail
    have hby : Below w2.heap.size w2 (w2.alloc (.cells #[.int .i64 1, .int .i64 4, .int .i64 3] 70)) := (Below.refl _ _).alloc (Nat.le_refl _) _
    have HX4 := Aside0.mk (HX3.out.below' hby)
    have B4 := Aside0.mk (B3.out.trans (hby.mono B3.out.size))
    have HTP4 := Aside0.mk (show (is = false ∧ tp = none) ∨ (is = true ∧ ∃ (t f fl fh k : Nat), tp = some ⟨t, 0, none⟩ ∧ s = (k : Int) ∧ Tb (w2.alloc (.cells #[.int .i64 1, .int .i64 4, .int .i64 3] 70)) t f fl fh b g k (List.range k) (List.replicate 16 false) 0) from
      HTP.out.imp id (fun ⟨h1, t, f, fl, fh, k, h2, h3, h4⟩ => ⟨h1, t, f, fl, fh, k, h2, h3, h4.below' hby⟩))
    clear hby HX3 B3 HTP
    go_wp2_with fail
    refine (new_at 1 3 4 _ (by kernel_rfl) (by omega) (by omega)).mono ?_
    rintro e w3 ⟨u, uf, ufl, ufh, rfl, hU, _, hb⟩
    have HX5 := Aside0.mk (HX4.out.below' hb)
    have B5 := Aside0.mk (B4.out.trans (hb.mono B4.out.size))
    have HTP5 := Aside0.mk (show (is = false ∧ tp = none) ∨ (is = true ∧ ∃ (t f fl fh k : Nat), tp = some ⟨t, 0, none⟩ ∧ s = (k : Int) ∧ Tb w3 t f fl fh b g k (List.range k) (List.replicate 16 false) 0) from
      HTP4.out.imp id (fun ⟨h1, t, f, fl, fh, k, h2, h3, h4⟩ => ⟨h1, t, f, fl, fh, k, h2, h3, h4.below' hb⟩))
    have HU := Aside0.mk (show Tb w3 u uf ufl ufh ((1 : Nat) : Int) 3 4 (List.range 4) (List.replicate 16 false) 0 from hU)
    clear hU hb HX4 B4 HTP4
    go_wp2_with fail
    obtain ⟨WA, hWA⟩ : ∃ ww, w3 = ww := ⟨_, rfl⟩
    rw [hWA] at HX5 B5 HTP5 HU ⊢
    clear hWA
    refine (Settle.new_as 8 WA WA (by omega) (Below.refl _ _)).mono ?_
    rintro e w4 ⟨B2, ga, gc, rfl, hA⟩
    have A0 := Aside0.mk (show Settle.AS WA B2 ga gc 8 w4 (VV l 0) 1 [] from by rw [VV_zero]; exact hA.more (by omega))
    have GA := Aside0.mk (Slot.Cells.below GL.out B5.out hz)
    have hza := Slot.Cells.size GA.out
    have RA := Aside0.mk (show XRow WA A l from fun i hi => by
      obtain ⟨ad, h1, h2⟩ := RO.out i hi
      exact ⟨ad, h1, (B5.out.cell (World.block_lt_of_cell? _ _ h2)).trans h2⟩)
    clear hA
    go_wp2_with fail
    go_loopg [10, 11, 12] (min l.length 4) (fun gg v10 v11 v12 wx => ∃ i : Nat, gg + i = min l.length 4 ∧ v11 = .int .i64 (i : Int) ∧ v10 = .int .i64 (cntB (liveL l) i : Int) ∧ Settle.AS WA B2 ga gc 8 wx (VV l i) (1 + i) [])
    case atStart => exact ⟨0, by omega, rfl, rfl, A0.out⟩
    case round =>
      clear A0
      obtain ⟨i, hi, rfl, rfl, hA⟩ := hrel
      have A := Aside0.mk hA
      have HI := Aside0.mk hi
      have hsz := hA.below.size
      clear hA
      by_cases hlt : i < l.length ∧ i < 4
      · have e1 : decide ((i : Int) < (l.length : Int)) = true := decide_eq_true (by omega)
        have e2 : decide ((i : Int) < 4) = true := decide_eq_true (by omega)
        obtain ⟨hil, hi4⟩ := hlt
        obtain ⟨ad, rfl, hcx⟩ := RA.out i hil
        have hg0 : l[i]?.getD 0 = l[i] := by simp [hil]
        have HCX := Aside0.mk (fun (w : World) (hb : Below WA.heap.size WA w) => (hb.cell (World.block_lt_of_cell? _ _ hcx)).trans hcx)
        have HC := cntB_succ (liveL l) i
        have HCL := cntB_le (liveL l) i
        have hlv : liveL l i = decide (((l[i]) / 8 % 4).toNat = 1 ∨ ((l[i]) / 8 % 4).toNat = 2) := by unfold liveL sN; rw [hg0]
        have hwd : wdN l i = wordN ((l[i]) % 8).toNat ((l[i]) / 8 % 4).toNat := by unfold wdN sN; rw [hg0]
        obtain ⟨x, hx⟩ : ∃ x, l[i] = x := ⟨_, rfl⟩
        rw [hx] at hcx HCX hlv hwd
        obtain ⟨x7, hx7, hx7b⟩ : ∃ m : Nat, Go.bits .and .i64 x 7 = (m : Int) ∧ m = (x % 8).toNat := ⟨_, by rw [i64_and7]; omega, rfl⟩
        obtain ⟨x8, hx8⟩ : ∃ y, x / 8 = y := ⟨_, rfl⟩
        rw [hx8] at hlv hwd
        obtain ⟨sx, hsx, hsxb⟩ : ∃ m : Nat, Go.bits .and .i64 x8 3 = (m : Int) ∧ m = (x8 % 4).toNat := ⟨_, by rw [i64_and3]; omega, rfl⟩
        rw [← hsxb] at hlv hwd
        rw [← hx7b] at hwd
        obtain ⟨wd, hwd2⟩ : ∃ y, wdN l i = y := ⟨_, rfl⟩
        have CELL := Aside0.mk (fun (w : World) (hb : Below WA.heap.size WA w) => (show Calls Tryd.prog 44 #[.pointer (some ⟨u, 0, none⟩), .int .i64 (i : Int)] w fun r w' => r = .returned (.int .i64 (1 + (i : Int))) ∧ Below w.heap.size w w' from cell_in i hi4 (HU.out.below' hb)))
        have WORD := Aside0.mk (fun (w : World) (hb : Below WA.heap.size WA w) => (show Calls Tryd.prog 23 #[.int .i64 (x7 : Int), .int .i64 (sx : Int)] w fun r w' => r = .returned (.int .u64 (wd : Int)) ∧ Below w.heap.size w w' from by
          have hh := Slot.word_calls (x7 : Int) (sx : Int) x7 sx w (Slot.Cells.below GA.out hb hza) (by unfold mx; rw [if_neg (by omega)]) (by unfold mx; rw [if_neg (by omega)]) (by omega) (by omega)
          rw [← hwd, hwd2] at hh
          exact hh))
        have WRITE := Aside0.mk (fun (w : World) (h : Settle.AS WA B2 ga gc 8 w (VV l i) (1 + i) []) => (show Calls Tryd.prog 31 #[.pointer (some ⟨ga, 0, none⟩), .int .i64 (1 + (i : Int)), .int .u64 (wd : Int)] w fun r w' => r = .returned (.tuple #[]) ∧ Settle.AS WA B2 ga gc 8 w' (VV l (i + 1)) (1 + i + 1) [] from by
          have hh := Settle.write_as (1 + i) (wd : Int) (by omega) (by omega) h
          rw [← hwd2, VV_set l i hi4, hwd2] at hh
          rw [show (1 + (i : Int)) = ((1 + i : Nat) : Int) by omega]
          exact hh))
        have HSZ := Aside0.mk (Nat.le_refl WA.heap.size)
        have HLV := Aside0.mk hlv
        have HSX := Aside0.mk hsxb
        have HC3 := Aside0.mk (And.intro HC HCL)
        clear hcx hlv hwd hx hg0 hsxb hx7b hi HC HCL hwd2
        go_upto_region 8 with fail
        go_cut [] from 63 to 79 (fun wx => Settle.AS WA B2 ga gc 8 wx (VV l (i + 1)) (1 + i + 1) [])
        case first =>
          refine RegInv.wp_region_steps (I := fun D a w => ∃ u63 u64 u65 u66 u67 u68 u69 u70 u71 u72 u73 u74 u75 u76 u77 u78 u79, a = ⟨(.agg #[.int .i64 b, .int .i64 s, .int .i64 g] :: .slice (some ad) l.length c :: .pointer (some ⟨xb, 0, none⟩) :: undef :: .bool false :: .bool is :: .pointer tp :: .pointer (some ⟨w2.heap.size, 0, none⟩) :: .pointer (some ⟨u, 0, none⟩) :: .pointer (some ⟨ga, 0, none⟩) :: .int .i64 (cntB (liveL l) i : Int) :: .int .i64 (i : Int) :: u12 :: undef :: undef :: undef :: u16 :: u17 :: u18 :: u19 :: u20 :: u21 :: u22 :: u23 :: u24 :: u25 :: u26 :: u27 :: u28 :: u29 :: u30 :: u31 :: u32 :: u33 :: u34 :: u35 :: u36 :: u37 :: u38 :: u39 :: u40 :: u41 :: u42 :: u43 :: u44 :: u45 :: u46 :: .agg #[.int .i64 b, .int .i64 s, .int .i64 g] :: .pointer tp :: .agg #[.int .i64 1, .int .i64 4, .int .i64 3] :: .agg #[.int .i64 1, .int .i64 4, .int .i64 3] :: .pointer (some ⟨u, 0, none⟩) :: .pointer (some ⟨ga, 0, none⟩) :: .int .i64 (i : Int) :: .slice (some ad) l.length c :: .int .i64 (l.length : Int) :: .bool true :: .bool true :: .int .i64 (i : Int) :: .bool true :: .bool true :: u61 :: u62 :: u63 :: u64 :: u65 :: u66 :: u67 :: u68 :: u69 :: u70 :: u71 :: u72 :: u73 :: u74 :: u75 :: u76 :: u77 :: u78 :: u79 :: u80 :: u81 :: u82 :: u83 :: u84 :: u85 :: u86 :: u87 :: u88 :: u89 :: u90 :: u91 :: u92 :: u93 :: undef :: undef :: undef :: undef :: undef :: undef :: undef :: undef :: undef :: undef :: undef :: undef :: undef :: undef :: undef :: undef :: undef :: undef :: undef :: undef :: undef :: undef :: undef :: undef :: undef :: undef :: undef :: undef :: undef :: undef :: undef :: undef :: undef :: undef :: undef :: undef :: undef :: undef :: undef :: undef :: undef :: undef :: undef :: undef :: undef :: undef :: undef :: undef :: undef :: undef :: undef :: undef :: undef :: undef :: undef :: undef :: undef :: undef :: undef :: undef :: undef :: undef :: undef :: undef :: undef :: undef :: undef :: undef :: undef :: undef :: undef :: undef :: undef :: undef :: undef :: undef :: undef :: []).toArray, []⟩ ∧ RM WA B2 ga gc u i c wd (1 + i) ad l x x8 x7 sx (VV l i) (VV l (i + 1)) WA D u63 u64 u65 u66 u67 u68 u69 u70 u71 u72 u73 u74 u75 u76 u77 u78 u79 w) (by kernel_rfl) (by kernel_rfl) ?_ ?_ ?_
          · exact ⟨_, _, _, _, _, _, _, _, _, _, _, _, _, _, _, _, _, rfl, ⟨A.out.below.drew, fun h => (by cases h), fun h => (by cases h), fun h => (by cases h), fun h => (by cases h), fun h => (by cases h), fun h => (by cases h), fun h => (by cases h), fun h => (by cases h), fun h => (by cases h), fun h => (by cases h), fun h => (by cases h), fun h => (by cases h), fun h => (by cases h), fun h => (by cases h), fun h => (by cases h), fun h => (by cases h), fun _ => A.out.next ((Below.refl _ _).drew), fun h => (by cases h)⟩⟩
          · rintro D a w ⟨u63, u64, u65, u66, u67, u68, u69, u70, u71, u72, u73, u74, u75, u76, u77, u78, u79, rfl, hR⟩ hall
            obtain rfl := hR.h0 (hall 0 (by decide))
            obtain rfl := hR.h1 (hall 1 (by decide))
            obtain rfl := hR.h2 (hall 2 (by decide))
            obtain rfl := hR.h3 (hall 3 (by decide))
            obtain rfl := hR.h4 (hall 4 (by decide))
            obtain rfl := hR.h5 (hall 5 (by decide))
            obtain rfl := hR.h6 (hall 6 (by decide))
            obtain rfl := hR.h7 (hall 7 (by decide))
            obtain rfl := hR.h8 (hall 8 (by decide))
            obtain rfl := hR.h9 (hall 9 (by decide))
            obtain rfl := hR.h10 (hall 10 (by decide))
            obtain rfl := hR.h11 (hall 11 (by decide))
            obtain rfl := hR.h12 (hall 12 (by decide))
            obtain rfl := hR.h13 (hall 13 (by decide))
            obtain rfl := hR.h14 (hall 14 (by decide))
            obtain rfl := hR.h15 (hall 15 (by decide))
            have ha := hR.a1 (hall 16 (by decide))
            go_wp2_with fail
            go_meet
            exact ha
          · refine RegInv.Steps.cons (fun D a w hI hD hdep K hK => ?_) ?_
            · obtain ⟨u63, u64, u65, u66, u67, u68, u69, u70, u71, u72, u73, u74, u75, u76, u77, u78, u79, rfl, hR⟩ := hI
              rw [if_pos (by rfl)]
              go_simp
              exact hK.out _ _ ⟨_, _, _, _, _, _, _, _, _, _, _, _, _, _, _, _, _, rfl, ⟨hR.below, fun _ => rfl, hR.h1, hR.h2, hR.h3, hR.h4, hR.h5, hR.h6, hR.h7, hR.h8, hR.h9, hR.h10, hR.h11, hR.h12, hR.h13, hR.h14, hR.h15, hR.a0, hR.a1⟩⟩
            refine RegInv.Steps.cons (fun D a w hI hD hdep K hK => ?_) ?_
            · obtain ⟨u63, u64, u65, u66, u67, u68, u69, u70, u71, u72, u73, u74, u75, u76, u77, u78, u79, rfl, hR⟩ := hI
              rw [if_pos (by rfl)]
              go_simp
              exact hK.out _ _ ⟨_, _, _, _, _, _, _, _, _, _, _, _, _, _, _, _, _, rfl, ⟨hR.below, hR.h0, fun _ => rfl, hR.h2, hR.h3, hR.h4, hR.h5, hR.h6, hR.h7, hR.h8, hR.h9, hR.h10, hR.h11, hR.h12, hR.h13, hR.h14, hR.h15, hR.a0, hR.a1⟩⟩
            refine RegInv.Steps.cons (fun D a w hI hD hdep K hK => ?_) ?_
            · obtain ⟨u63, u64, u65, u66, u67, u68, u69, u70, u71, u72, u73, u74, u75, u76, u77, u78, u79, rfl, hR⟩ := hI
              rw [if_pos (by rfl)]
              go_simp
              exact hK.out _ _ ⟨_, _, _, _, _, _, _, _, _, _, _, _, _, _, _, _, _, rfl, ⟨hR.below, hR.h0, hR.h1, fun _ => rfl, hR.h3, hR.h4, hR.h5, hR.h6, hR.h7, hR.h8, hR.h9, hR.h10, hR.h11, hR.h12, hR.h13, hR.h14, hR.h15, hR.a0, hR.a1⟩⟩
            refine RegInv.Steps.cons (fun D a w hI hD hdep K hK => ?_) ?_
            · obtain ⟨u63, u64, u65, u66, u67, u68, u69, u70, u71, u72, u73, u74, u75, u76, u77, u78, u79, rfl, hR⟩ := hI
              have d1 : D 1 = true := hdep ⟨1, .data⟩ (by simp) rfl
              obtain rfl := hR.h1 d1
              have d2 : D 2 = true := hdep ⟨2, .data⟩ (by simp) rfl
              obtain rfl := hR.h2 d2
              rw [if_pos (by rfl)]
              go_simp
              with_reducible refine (CELL.out w hR.below).mono ?_
              rintro e w9 ⟨rfl, hb9⟩
              exact hK.out _ _ ⟨_, _, _, _, _, _, _, _, _, _, _, _, _, _, _, _, _, rfl, ⟨hR.below.trans (hb9.mono (Nat.le_trans HSZ.out hR.below.size)), hR.h0, hR.h1, hR.h2, fun _ => rfl, hR.h4, hR.h5, hR.h6, hR.h7, hR.h8, hR.h9, hR.h10, hR.h11, hR.h12, hR.h13, hR.h14, hR.h15, fun h => (hR.a0 h).next hb9, fun h => (hR.a1 h).next hb9⟩⟩
            refine RegInv.Steps.cons (fun D a w hI hD hdep K hK => ?_) ?_
            · obtain ⟨u63, u64, u65, u66, u67, u68, u69, u70, u71, u72, u73, u74, u75, u76, u77, u78, u79, rfl, hR⟩ := hI
              rw [if_pos (by rfl)]
              go_simp
              exact hK.out _ _ ⟨_, _, _, _, _, _, _, _, _, _, _, _, _, _, _, _, _, rfl, ⟨hR.below, hR.h0, hR.h1, hR.h2, hR.h3, fun _ => rfl, hR.h5, hR.h6, hR.h7, hR.h8, hR.h9, hR.h10, hR.h11, hR.h12, hR.h13, hR.h14, hR.h15, hR.a0, hR.a1⟩⟩
            refine RegInv.Steps.cons (fun D a w hI hD hdep K hK => ?_) ?_
            · obtain ⟨u63, u64, u65, u66, u67, u68, u69, u70, u71, u72, u73, u74, u75, u76, u77, u78, u79, rfl, hR⟩ := hI
              rw [if_pos (by rfl)]
              go_simp
              exact hK.out _ _ ⟨_, _, _, _, _, _, _, _, _, _, _, _, _, _, _, _, _, rfl, ⟨hR.below, hR.h0, hR.h1, hR.h2, hR.h3, hR.h4, fun _ => rfl, hR.h6, hR.h7, hR.h8, hR.h9, hR.h10, hR.h11, hR.h12, hR.h13, hR.h14, hR.h15, hR.a0, hR.a1⟩⟩
            refine RegInv.Steps.cons (fun D a w hI hD hdep K hK => ?_) ?_
            · obtain ⟨u63, u64, u65, u66, u67, u68, u69, u70, u71, u72, u73, u74, u75, u76, u77, u78, u79, rfl, hR⟩ := hI
              have d4 : D 4 = true := hdep ⟨4, .data⟩ (by simp) rfl
              obtain rfl := hR.h4 d4
              have d5 : D 5 = true := hdep ⟨5, .data⟩ (by simp) rfl
              obtain rfl := hR.h5 d5
              rw [if_pos (by rfl)]
              go_simp
              exact hK.out _ _ ⟨_, _, _, _, _, _, _, _, _, _, _, _, _, _, _, _, _, rfl, ⟨hR.below, hR.h0, hR.h1, hR.h2, hR.h3, hR.h4, hR.h5, fun _ => rfl, hR.h7, hR.h8, hR.h9, hR.h10, hR.h11, hR.h12, hR.h13, hR.h14, hR.h15, hR.a0, hR.a1⟩⟩
            refine RegInv.Steps.cons (fun D a w hI hD hdep K hK => ?_) ?_
            · obtain ⟨u63, u64, u65, u66, u67, u68, u69, u70, u71, u72, u73, u74, u75, u76, u77, u78, u79, rfl, hR⟩ := hI
              have d6 : D 6 = true := hdep ⟨6, .data⟩ (by simp) rfl
              obtain rfl := hR.h6 d6
              have cx := HCX.out w hR.below
              rw [if_pos (by rfl)]
              go_simp
              exact hK.out _ _ ⟨_, _, _, _, _, _, _, _, _, _, _, _, _, _, _, _, _, rfl, ⟨hR.below, hR.h0, hR.h1, hR.h2, hR.h3, hR.h4, hR.h5, hR.h6, fun _ => rfl, hR.h8, hR.h9, hR.h10, hR.h11, hR.h12, hR.h13, hR.h14, hR.h15, hR.a0, hR.a1⟩⟩
            refine RegInv.Steps.cons (fun D a w hI hD hdep K hK => ?_) ?_
            · obtain ⟨u63, u64, u65, u66, u67, u68, u69, u70, u71, u72, u73, u74, u75, u76, u77, u78, u79, rfl, hR⟩ := hI
              have d7 : D 7 = true := hdep ⟨7, .data⟩ (by simp) rfl
              obtain rfl := hR.h7 d7
              rw [if_pos (by rfl)]
              go_simp
              exact hK.out _ _ ⟨_, _, _, _, _, _, _, _, _, _, _, _, _, _, _, _, _, rfl, ⟨hR.below, hR.h0, hR.h1, hR.h2, hR.h3, hR.h4, hR.h5, hR.h6, hR.h7, fun _ => rfl, hR.h9, hR.h10, hR.h11, hR.h12, hR.h13, hR.h14, hR.h15, hR.a0, hR.a1⟩⟩
            refine RegInv.Steps.cons (fun D a w hI hD hdep K hK => ?_) ?_
            · obtain ⟨u63, u64, u65, u66, u67, u68, u69, u70, u71, u72, u73, u74, u75, u76, u77, u78, u79, rfl, hR⟩ := hI
              rw [if_pos (by rfl)]
              go_simp
              exact hK.out _ _ ⟨_, _, _, _, _, _, _, _, _, _, _, _, _, _, _, _, _, rfl, ⟨hR.below, hR.h0, hR.h1, hR.h2, hR.h3, hR.h4, hR.h5, hR.h6, hR.h7, hR.h8, fun _ => rfl, hR.h10, hR.h11, hR.h12, hR.h13, hR.h14, hR.h15, hR.a0, hR.a1⟩⟩
            refine RegInv.Steps.cons (fun D a w hI hD hdep K hK => ?_) ?_
            · obtain ⟨u63, u64, u65, u66, u67, u68, u69, u70, u71, u72, u73, u74, u75, u76, u77, u78, u79, rfl, hR⟩ := hI
              rw [if_pos (by rfl)]
              go_simp
              exact hK.out _ _ ⟨_, _, _, _, _, _, _, _, _, _, _, _, _, _, _, _, _, rfl, ⟨hR.below, hR.h0, hR.h1, hR.h2, hR.h3, hR.h4, hR.h5, hR.h6, hR.h7, hR.h8, hR.h9, fun _ => rfl, hR.h11, hR.h12, hR.h13, hR.h14, hR.h15, hR.a0, hR.a1⟩⟩
            refine RegInv.Steps.cons (fun D a w hI hD hdep K hK => ?_) ?_
            · obtain ⟨u63, u64, u65, u66, u67, u68, u69, u70, u71, u72, u73, u74, u75, u76, u77, u78, u79, rfl, hR⟩ := hI
              have d9 : D 9 = true := hdep ⟨9, .data⟩ (by simp) rfl
              obtain rfl := hR.h9 d9
              have d10 : D 10 = true := hdep ⟨10, .data⟩ (by simp) rfl
              obtain rfl := hR.h10 d10
              rw [if_pos (by rfl)]
              go_simp
              exact hK.out _ _ ⟨_, _, _, _, _, _, _, _, _, _, _, _, _, _, _, _, _, rfl, ⟨hR.below, hR.h0, hR.h1, hR.h2, hR.h3, hR.h4, hR.h5, hR.h6, hR.h7, hR.h8, hR.h9, hR.h10, fun _ => rfl, hR.h12, hR.h13, hR.h14, hR.h15, hR.a0, hR.a1⟩⟩
            refine RegInv.Steps.cons (fun D a w hI hD hdep K hK => ?_) ?_
            · obtain ⟨u63, u64, u65, u66, u67, u68, u69, u70, u71, u72, u73, u74, u75, u76, u77, u78, u79, rfl, hR⟩ := hI
              have d11 : D 11 = true := hdep ⟨11, .data⟩ (by simp) rfl
              obtain rfl := hR.h11 d11
              have cx := HCX.out w hR.below
              rw [if_pos (by rfl)]
              go_simp
              exact hK.out _ _ ⟨_, _, _, _, _, _, _, _, _, _, _, _, _, _, _, _, _, rfl, ⟨hR.below, hR.h0, hR.h1, hR.h2, hR.h3, hR.h4, hR.h5, hR.h6, hR.h7, hR.h8, hR.h9, hR.h10, hR.h11, fun _ => rfl, hR.h13, hR.h14, hR.h15, hR.a0, hR.a1⟩⟩
            refine RegInv.Steps.cons (fun D a w hI hD hdep K hK => ?_) ?_
            · obtain ⟨u63, u64, u65, u66, u67, u68, u69, u70, u71, u72, u73, u74, u75, u76, u77, u78, u79, rfl, hR⟩ := hI
              have d12 : D 12 = true := hdep ⟨12, .data⟩ (by simp) rfl
              obtain rfl := hR.h12 d12
              rw [if_pos (by rfl)]
              go_simp
              exact hK.out _ _ ⟨_, _, _, _, _, _, _, _, _, _, _, _, _, _, _, _, _, rfl, ⟨hR.below, hR.h0, hR.h1, hR.h2, hR.h3, hR.h4, hR.h5, hR.h6, hR.h7, hR.h8, hR.h9, hR.h10, hR.h11, hR.h12, fun _ => rfl, hR.h14, hR.h15, hR.a0, hR.a1⟩⟩
            refine RegInv.Steps.cons (fun D a w hI hD hdep K hK => ?_) ?_
            · obtain ⟨u63, u64, u65, u66, u67, u68, u69, u70, u71, u72, u73, u74, u75, u76, u77, u78, u79, rfl, hR⟩ := hI
              have d13 : D 13 = true := hdep ⟨13, .data⟩ (by simp) rfl
              obtain rfl := hR.h13 d13
              rw [if_pos (by rfl)]
              go_simp
              exact hK.out _ _ ⟨_, _, _, _, _, _, _, _, _, _, _, _, _, _, _, _, _, rfl, ⟨hR.below, hR.h0, hR.h1, hR.h2, hR.h3, hR.h4, hR.h5, hR.h6, hR.h7, hR.h8, hR.h9, hR.h10, hR.h11, hR.h12, hR.h13, fun _ => rfl, hR.h15, hR.a0, hR.a1⟩⟩
            refine RegInv.Steps.cons (fun D a w hI hD hdep K hK => ?_) ?_
            · obtain ⟨u63, u64, u65, u66, u67, u68, u69, u70, u71, u72, u73, u74, u75, u76, u77, u78, u79, rfl, hR⟩ := hI
              have d8 : D 8 = true := hdep ⟨8, .data⟩ (by simp) rfl
              obtain rfl := hR.h8 d8
              have d14 : D 14 = true := hdep ⟨14, .data⟩ (by simp) rfl
              obtain rfl := hR.h14 d14
              rw [if_pos (by rfl)]
              go_simp
              with_reducible refine (WORD.out w hR.below).mono ?_
              rintro e w9 ⟨rfl, hb9⟩
              exact hK.out _ _ ⟨_, _, _, _, _, _, _, _, _, _, _, _, _, _, _, _, _, rfl, ⟨hR.below.trans (hb9.mono (Nat.le_trans HSZ.out hR.below.size)), hR.h0, hR.h1, hR.h2, hR.h3, hR.h4, hR.h5, hR.h6, hR.h7, hR.h8, hR.h9, hR.h10, hR.h11, hR.h12, hR.h13, hR.h14, fun _ => rfl, fun h => (hR.a0 h).next hb9, fun h => (hR.a1 h).next hb9⟩⟩
            refine RegInv.Steps.cons (fun D a w hI hD hdep K hK => ?_) ?_
            · obtain ⟨u63, u64, u65, u66, u67, u68, u69, u70, u71, u72, u73, u74, u75, u76, u77, u78, u79, rfl, hR⟩ := hI
              have d0 : D 0 = true := hdep ⟨0, .data⟩ (by simp) rfl
              obtain rfl := hR.h0 d0
              have d3 : D 3 = true := hdep ⟨3, .data⟩ (by simp) rfl
              obtain rfl := hR.h3 d3
              have d15 : D 15 = true := hdep ⟨15, .data⟩ (by simp) rfl
              obtain rfl := hR.h15 d15
              rw [if_pos (by rfl)]
              go_simp
              have ha := hR.a0 hD
              with_reducible refine (WRITE.out w ha).mono ?_
              rintro e w9 ⟨rfl, ha9⟩
              exact hK.out _ _ ⟨_, _, _, _, _, _, _, _, _, _, _, _, _, _, _, _, _, rfl, ⟨ha9.below, hR.h0, hR.h1, hR.h2, hR.h3, hR.h4, hR.h5, hR.h6, hR.h7, hR.h8, hR.h9, hR.h10, hR.h11, hR.h12, hR.h13, hR.h14, hR.h15, fun h => absurd h (by rw [RegInv.upd_at]; decide), fun _ => ha9⟩⟩
            exact RegInv.Steps.nil
        case rest =>
          have A2 := Aside0.mk hcut
          have hcx := HCX.out _ hcut.below
          clear hcut A CELL WORD WRITE
          obtain ⟨cc, hcc⟩ : ∃ y, cntB (liveL l) i = y := ⟨_, rfl⟩
          rw [hcc] at HC3 ⊢
          have hc16 : cc ≤ 16 := by have := HC3.out.2; omega
          clear hcc
          by_cases hs1 : sx = 1
          · have HC4 := Aside0.mk (show cntB (liveL l) (i + 1) = cc + 1 by rw [HC3.out.1, HLV.out, if_pos (decide_eq_true (Or.inl hs1))])
            subst hs1
            go_wp2_with fail
            go_roundg (min l.length 4 - (i + 1))
            case measure => have := HI.out; omega
            case rel => exact ⟨i + 1, by have := HI.out; omega, by go_num, by rw [HC4.out]; go_num, A2.out⟩
          · by_cases hs2 : sx = 2
            · have HC4 := Aside0.mk (show cntB (liveL l) (i + 1) = cc + 1 by rw [HC3.out.1, HLV.out, if_pos (decide_eq_true (Or.inr hs2))])
              subst hs2
              go_wp2_with fail
              go_roundg (min l.length 4 - (i + 1))
              case measure => have := HI.out; omega
              case rel => exact ⟨i + 1, by have := HI.out; omega, by go_num, by rw [HC4.out]; go_num, A2.out⟩
            · have HC4 := Aside0.mk (show cntB (liveL l) (i + 1) = cc by rw [HC3.out.1, HLV.out, if_neg (by simp; omega)]; rfl)
              obtain ⟨z, hz2⟩ : ∃ z : Int, (sx : Int) = z := ⟨_, rfl⟩
              rw [hz2] at hsx
              have q1 : (z == 1) = false := by rw [beq_eq_false_iff_ne]; omega
              have q2 : (z == 2) = false := by rw [beq_eq_false_iff_ne]; omega
              clear hz2
              go_wp2_with fail
              go_roundg (min l.length 4 - (i + 1))
              case measure => have := HI.out; omega
              case rel => exact ⟨i + 1, by have := HI.out; omega, by go_num, by rw [HC4.out], A2.out⟩
      · have hlt2 := hlt
        clear hlt
        have hi4 : i ≤ 4 := by omega
        have LIVE := Aside0.mk (fun (w : World) (h : Settle.AS WA B2 ga gc 8 w (VV l i) (1 + i) []) => (show Calls Tryd.prog 46 #[.pointer (some ⟨u, 0, none⟩), .pointer (some ⟨ga, 0, none⟩)] w fun r w' => r = .returned (.int .i64 (cntB (liveL l) i : Int)) ∧ Below w.heap.size w w' from by
          have hh := live_at 1 (fun a => if a < i then wdN l a else 0) (liveJ l i) HU.out h GA.out (by omega) (fun a ha => ⟨by show (if a < i then wdN l a else 0) < 2 ^ 64; split; exact wdN_lt l a; omega, VV_get l i a ha, live_word l i a⟩)
          rw [cnt4 l i hi4] at hh
          exact hh))
        obtain ⟨cc, hcc⟩ : ∃ y, cntB (liveL l) i = y := ⟨_, rfl⟩
        rw [hcc] at LIVE ⊢
        clear hcc hi
        rcases HTP5.out with ⟨rfl, rfl⟩ | ⟨rfl, t, f, fl, fh, k, rfl, hsk, hTb⟩
        · by_cases h1 : i < l.length
          · have e1 : decide ((i : Int) < (l.length : Int)) = true := decide_eq_true (by omega)
            have e2 : decide ((i : Int) < 4) = false := decide_eq_false (by omega)
            have e3 : ¬ i < 4 := by omega
            have A20 := A
            clear A
            have c0 := (HX5.out.below' A20.out.below).cell 0
            have c1 := (HX5.out.below' A20.out.below).cell 1
            have c2 := (HX5.out.below' A20.out.below).cell 2
            simp only [List.getElem?_cons_zero, List.getElem?_cons_succ] at c0 c1 c2
            go_wp2_with fail
            refine (pick_nil _).mono ?_
            rintro e w21 ⟨rfl, hb⟩
            have A21 := Aside0.mk (A20.out.next hb)
            clear hb A20 c0 c1 c2
            have c0 := (HX5.out.below' A21.out.below).cell 0
            have c1 := (HX5.out.below' A21.out.below).cell 1
            have c2 := (HX5.out.below' A21.out.below).cell 2
            simp only [List.getElem?_cons_zero, List.getElem?_cons_succ] at c0 c1 c2
            have xlt := (HX5.out.below' A21.out.below).lt
            go_upto_region 14 with fail
            simp only [List.append_eq, List.cons_append, List.nil_append]
            refine wp_region_below (by kernel_rfl) (by kernel_rfl) ?_
            repeat (go_big_quiet_step ((intro hw; first
              | (with_reducible rfl)
              | (go_at_call 42; with_reducible exact q_below hw (Table.awake_calls _ (Slot.Cells.below GA.out (A21.out.next hw).below hza)))
              | (go_at_call 45; with_reducible exact q_below hw (PTableMay.table_May.calls b s g _ _ HMF.out))
              | (go_at_call 44; with_reducible exact q_below hw (cell_nil 0 _))
              | (go_at_call 46; with_reducible exact q_below hw (LIVE.out _ (A21.out.next hw)))
              | (go_at_call 40; with_reducible exact q_below hw (free_nil _))
              | (go_at_call 41; with_reducible exact q_below hw (retired_nil _))
              | (go_at_call 47; with_reducible exact q_below hw (most_nil _))
              | (go_at_call 46; with_reducible exact q_below hw (live_nil _ _))
              | (go_at_call 38; with_reducible exact q_below hw (back_nil 0 (by omega) 0 (Slot.Cells.below GA.out (A21.out.next hw).below hza)))
              | (have e0 := (hw.cell (p := ⟨xb, 0, none⟩) xlt).trans c0; have e1 := (hw.cell (p := ⟨xb, 1, none⟩) xlt).trans c1; have e2 := (hw.cell (p := ⟨xb, 2, none⟩) xlt).trans c2; go_simp; first | rfl | exact ⟨rfl, rfl⟩))))
            refine wpQuiet_nil ?_
            intro W2 hb2
            have A22 := Aside0.mk (A21.out.next hb2)
            clear hb2
            go_wp2_with fail
            go_ret
            exact ⟨rfl, B5.out.trans (A22.out.below.mono B5.out.size)⟩
          · have e1 : decide ((i : Int) < (l.length : Int)) = false := decide_eq_false (by omega)
            have A20 := A
            clear A
            have c0 := (HX5.out.below' A20.out.below).cell 0
            have c1 := (HX5.out.below' A20.out.below).cell 1
            have c2 := (HX5.out.below' A20.out.below).cell 2
            simp only [List.getElem?_cons_zero, List.getElem?_cons_succ] at c0 c1 c2
            go_wp2_with fail
            refine (pick_nil _).mono ?_
            rintro e w21 ⟨rfl, hb⟩
            have A21 := Aside0.mk (A20.out.next hb)
            clear hb A20 c0 c1 c2
            have c0 := (HX5.out.below' A21.out.below).cell 0
            have c1 := (HX5.out.below' A21.out.below).cell 1
            have c2 := (HX5.out.below' A21.out.below).cell 2
            simp only [List.getElem?_cons_zero, List.getElem?_cons_succ] at c0 c1 c2
            have xlt := (HX5.out.below' A21.out.below).lt
            go_upto_region 14 with fail
            simp only [List.append_eq, List.cons_append, List.nil_append]
            refine wp_region_below (by kernel_rfl) (by kernel_rfl) ?_
            repeat (go_big_quiet_step ((intro hw; first
              | (with_reducible rfl)
              | (go_at_call 42; with_reducible exact q_below hw (Table.awake_calls _ (Slot.Cells.below GA.out (A21.out.next hw).below hza)))
              | (go_at_call 45; with_reducible exact q_below hw (PTableMay.table_May.calls b s g _ _ HMF.out))
              | (go_at_call 44; with_reducible exact q_below hw (cell_nil 0 _))
              | (go_at_call 46; with_reducible exact q_below hw (LIVE.out _ (A21.out.next hw)))
              | (go_at_call 40; with_reducible exact q_below hw (free_nil _))
              | (go_at_call 41; with_reducible exact q_below hw (retired_nil _))
              | (go_at_call 47; with_reducible exact q_below hw (most_nil _))
              | (go_at_call 46; with_reducible exact q_below hw (live_nil _ _))
              | (go_at_call 38; with_reducible exact q_below hw (back_nil 0 (by omega) 0 (Slot.Cells.below GA.out (A21.out.next hw).below hza)))
              | (have e0 := (hw.cell (p := ⟨xb, 0, none⟩) xlt).trans c0; have e1 := (hw.cell (p := ⟨xb, 1, none⟩) xlt).trans c1; have e2 := (hw.cell (p := ⟨xb, 2, none⟩) xlt).trans c2; go_simp; first | rfl | exact ⟨rfl, rfl⟩))))
            refine wpQuiet_nil ?_
            intro W2 hb2
            have A22 := Aside0.mk (A21.out.next hb2)
            clear hb2
            go_wp2_with fail
            go_ret
            exact ⟨rfl, B5.out.trans (A22.out.below.mono B5.out.size)⟩
        · have HT := Aside0.mk hTb
          have HSK := Aside0.mk hsk
          have CL0 := Aside0.mk (fun (w : World) (hb : Below WA.heap.size WA w) => (show Calls Tryd.prog 44 #[.pointer (some ⟨t, 0, none⟩), .int .i64 0] w fun r w' => r = .returned (.int .i64 b) ∧ Below w.heap.size w w' from by
            have hh := cell_in 0 (by have := HT.out.k16; omega) (HT.out.below' hb)
            rw [show b + ((0 : Nat) : Int) = b by omega] at hh
            exact hh))
          clear hTb hsk
          by_cases h1 : i < l.length
          · have e1 : decide ((i : Int) < (l.length : Int)) = true := decide_eq_true (by omega)
            have e2 : decide ((i : Int) < 4) = false := decide_eq_false (by omega)
            have e3 : ¬ i < 4 := by omega
            have A20 := A
            clear A
            have c0 := (HX5.out.below' A20.out.below).cell 0
            have c1 := (HX5.out.below' A20.out.below).cell 1
            have c2 := (HX5.out.below' A20.out.below).cell 2
            simp only [List.getElem?_cons_zero, List.getElem?_cons_succ] at c0 c1 c2
            go_wp2_with fail
            refine (pick_nil _).mono ?_
            rintro e w21 ⟨rfl, hb⟩
            have A21 := Aside0.mk (A20.out.next hb)
            clear hb A20 c0 c1 c2
            have c0 := (HX5.out.below' A21.out.below).cell 0
            have c1 := (HX5.out.below' A21.out.below).cell 1
            have c2 := (HX5.out.below' A21.out.below).cell 2
            simp only [List.getElem?_cons_zero, List.getElem?_cons_succ] at c0 c1 c2
            have xlt := (HX5.out.below' A21.out.below).lt
            go_upto_region 14 with fail
            simp only [List.append_eq, List.cons_append, List.nil_append]
            refine wp_region_below (by kernel_rfl) (by kernel_rfl) ?_
            repeat (go_big_quiet_step ((intro hw; first
              | (with_reducible rfl)
              | (go_at_call 42; with_reducible exact q_below hw (Table.awake_calls _ (Slot.Cells.below GA.out (A21.out.next hw).below hza)))
              | (go_at_call 45; with_reducible exact q_below hw (PTableMay.table_May.calls b s g _ _ HMF.out))
              | (go_at_call 44; with_reducible exact q_below hw (CL0.out _ (A21.out.next hw).below))
              | (go_at_call 44; with_reducible exact q_below hw (cell_out s (Or.inr (by have := HSK.out; omega)) (HT.out.below' (A21.out.next hw).below)))
              | (go_at_call 44; with_reducible exact q_below hw (cell_out (-1) (Or.inl (by omega)) (HT.out.below' (A21.out.next hw).below)))
              | (go_at_call 44; with_reducible exact q_below hw (cell_nil 0 _))
              | (go_at_call 46; with_reducible exact q_below hw (LIVE.out _ (A21.out.next hw)))
              | (go_at_call 40; with_reducible exact q_below hw (free_nil _))
              | (go_at_call 41; with_reducible exact q_below hw (retired_nil _))
              | (go_at_call 47; with_reducible exact q_below hw (most_nil _))
              | (go_at_call 46; with_reducible exact q_below hw (live_nil _ _))
              | (go_at_call 38; with_reducible exact q_below hw (back_nil 0 (by omega) 0 (Slot.Cells.below GA.out (A21.out.next hw).below hza)))
              | (have e0 := (hw.cell (p := ⟨xb, 0, none⟩) xlt).trans c0; have e1 := (hw.cell (p := ⟨xb, 1, none⟩) xlt).trans c1; have e2 := (hw.cell (p := ⟨xb, 2, none⟩) xlt).trans c2; go_simp; first | rfl | exact ⟨rfl, rfl⟩))))
            refine wpQuiet_nil ?_
            intro W2 hb2
            have A22 := Aside0.mk (A21.out.next hb2)
            clear hb2
            go_wp2_with fail
            go_ret
            exact ⟨rfl, B5.out.trans (A22.out.below.mono B5.out.size)⟩
          · have e1 : decide ((i : Int) < (l.length : Int)) = false := decide_eq_false (by omega)
            have A20 := A
            clear A
            have c0 := (HX5.out.below' A20.out.below).cell 0
            have c1 := (HX5.out.below' A20.out.below).cell 1
            have c2 := (HX5.out.below' A20.out.below).cell 2
            simp only [List.getElem?_cons_zero, List.getElem?_cons_succ] at c0 c1 c2
            go_wp2_with fail
            refine (pick_nil _).mono ?_
            rintro e w21 ⟨rfl, hb⟩
            have A21 := Aside0.mk (A20.out.next hb)
            clear hb A20 c0 c1 c2
            have c0 := (HX5.out.below' A21.out.below).cell 0
            have c1 := (HX5.out.below' A21.out.below).cell 1
            have c2 := (HX5.out.below' A21.out.below).cell 2
            simp only [List.getElem?_cons_zero, List.getElem?_cons_succ] at c0 c1 c2
            have xlt := (HX5.out.below' A21.out.below).lt
            go_upto_region 14 with fail
            simp only [List.append_eq, List.cons_append, List.nil_append]
            refine wp_region_below (by kernel_rfl) (by kernel_rfl) ?_
            repeat (go_big_quiet_step ((intro hw; first
              | (with_reducible rfl)
              | (go_at_call 42; with_reducible exact q_below hw (Table.awake_calls _ (Slot.Cells.below GA.out (A21.out.next hw).below hza)))
              | (go_at_call 45; with_reducible exact q_below hw (PTableMay.table_May.calls b s g _ _ HMF.out))
              | (go_at_call 44; with_reducible exact q_below hw (CL0.out _ (A21.out.next hw).below))
              | (go_at_call 44; with_reducible exact q_below hw (cell_out s (Or.inr (by have := HSK.out; omega)) (HT.out.below' (A21.out.next hw).below)))
              | (go_at_call 44; with_reducible exact q_below hw (cell_out (-1) (Or.inl (by omega)) (HT.out.below' (A21.out.next hw).below)))
              | (go_at_call 44; with_reducible exact q_below hw (cell_nil 0 _))
              | (go_at_call 46; with_reducible exact q_below hw (LIVE.out _ (A21.out.next hw)))
              | (go_at_call 40; with_reducible exact q_below hw (free_nil _))
              | (go_at_call 41; with_reducible exact q_below hw (retired_nil _))
              | (go_at_call 47; with_reducible exact q_below hw (most_nil _))
              | (go_at_call 46; with_reducible exact q_below hw (live_nil _ _))
              | (go_at_call 38; with_reducible exact q_below hw (back_nil 0 (by omega) 0 (Slot.Cells.below GA.out (A21.out.next hw).below hza)))
              | (have e0 := (hw.cell (p := ⟨xb, 0, none⟩) xlt).trans c0; have e1 := (hw.cell (p := ⟨xb, 1, none⟩) xlt).trans c1; have e2 := (hw.cell (p := ⟨xb, 2, none⟩) xlt).trans c2; go_simp; first | rfl | exact ⟨rfl, rfl⟩))))
            refine wpQuiet_nil ?_
            intro W2 hb2
            have A22 := Aside0.mk (A21.out.next hb2)
            clear hb2
            go_wp2_with fail
            go_ret
            exact ⟨rfl, B5.out.trans (A22.out.below.mono B5.out.size)⟩
theorem walk (a0_0 : Int) (a0_1 : Int) (a0_2 : Int) (A1 : Option Addr) (c1 : Nat) (l1 : List (Pts [.int .i64])) (W : World) (w0_0 : (Lit.int .i64 a0_0).wf = true) (w0_1 : (Lit.int .i64 a0_1).wf = true) (w0_2 : (Lit.int .i64 a0_2).wf = true) (ro1 : RowsOf W [.int .i64] A1 l1) (w1 : ∀ x ∈ l1, wfs [.int .i64] x) (lc1 : l1.length ≤ c1) (cm1 : c1 ≤ maxLen) (nn1 : A1 = none → c1 = 0) (gl : LaidSlot.Cells W) :
    Calls Tryd.prog 12 #[.agg #[.int .i64 a0_0, .int .i64 a0_1, .int .i64 a0_2], .slice A1 l1.length c1] W fun e W' => e = .returned (.bool true) ∧ Below W.heap.size W W' := by
  have h := core a0_0 a0_1 a0_2 A1 (l1.map fun x => x.1) c1 W gl (by unfold maxLen at cm1; simp; omega) (fun i hi => by
    have hi' : i < l1.length := by simpa using hi
    obtain ⟨b, hb, h⟩ := ro1 i hi'
    refine ⟨b, hb, ?_⟩
    have := h 0 (by decide)
    simp only [List.length_cons, List.length_nil, Nat.add_zero] at this
    rw [show i * (0 + 1) = i by omega] at this
    rw [this]
    simp
    rfl)
  rw [List.length_map] at h
  exact h
end Go.Proofs.YthonkcldddfpnaaDoor.walkTableMay
