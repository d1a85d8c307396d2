/- Whatever is picked and comes back: the walk of TablePlays. -/
import Derived.Test.YthonkcldddfpnaaDoorTable3
import Derived.Test.YthonkcldddfpnaaDoorOpen
import Derived.Deep.CutBlock
import Derived.Deep.RegionLaw
namespace Go.Proofs.YthonkcldddfpnaaDoor.walkTablePlays
open Go.RowKit Go.Proofs.YthonkcldddfpnaaDoorW.PrintWords Go.Proofs.YthonkcldddfpnaaDoorW.PrintLast Go.Proofs.YthonkcldddfpnaaDoorW.PrintMore Go.Proofs.YthonkcldddfpnaaDoor.Open Go.Proofs.YthonkcldddfpnaaDoor.Aid Go.Proofs.YthonkcldddfpnaaDoor.Quiet Go.Proofs.YthonkcldddfpnaaDoor.Blk Go.Proofs.YthonkcldddfpnaaDoor.State Go.Proofs.YthonkcldddfpnaaDoor.Vals Go.Proofs.YthonkcldddfpnaaDoor.SlotF Go.Proofs.YthonkcldddfpnaaDoor.Free Go.Proofs.YthonkcldddfpnaaDoor.Table
set_option linter.unusedVariables false
set_option linter.unusedSimpArgs false

def natI (q : List Nat) : List Int := q.map Int.ofNat
/-- 'xs[1:]'. -/
theorem cut1 (A : Option Addr) (n c : Nat) (hn : 1 ≤ n) : ∃ A' : Option Addr, (∀ W : World, (Instr.slice 71 (.slice A n c) (some (.int .i64 1)) none none).run Tryd.prog W = .ok (.slice A' (n - 1) (c - 1)) W) ∧
    (∀ (w : World) (xs : List Int), n ≤ c → ReadsInt w .i64 A n xs → ReadsInt w .i64 A' (n - 1) (xs.drop 1)) ∧ ∀ a', A' = some a' → ∃ a, A = some a ∧ a.block = a'.block := by
  refine ⟨if c = 1 then A else A.map (·.add 1), fun W => ?_, fun w xs hc h => h.drop_ 1 hn hc, fun a' h => ?_⟩
  · obtain ⟨i0, hi, hz⟩ := Option.map_eq_some_iff.1 Free.info3
    simp only [Prod.mk.injEq] at hz
    have ht : Tryd.prog.underlying 71 = some (.slice 3) := Tryd.underlying71
    have hel : Tryd.prog.elem 71 = 3 := by simp [Program.elem, ht]
    have hu : Tryd.prog.underlying 71 = some (.slice (Tryd.prog.elem 71)) := by rw [hel]; exact ht
    rw [run_slice_l W 71 A n c hu .i64 (1 : Int) (by omega) (by omega), hel]
    simp [sizeOf, typeInfo, hi, hz.2.1, sliced, Result.andThen]
  · split at h
    · exact ⟨a', h, rfl⟩
    · cases A with
      | none => simp at h
      | some a =>
        simp at h
        exact ⟨a, rfl, by rw [← h]; unfold Addr.add; simp⟩
/-- A slice that reads as these places, in none of the blocks S. -/
structure Row (S : List Nat) (w : World) (A : Option Addr) (c : Nat) (q : List Nat) : Prop where
  le : q.length ≤ c
  rd : ReadsInt w .i64 A q.length (natI q)
  ap : ∀ a, A = some a → a.block ∉ S
section
variable {S : List Nat} {w w' : World} {A : Option Addr} {c : Nat} {q : List Nat}
theorem Row.below (h : Row S w A c q) (hb : Below w.heap.size w w') : Row S w' A c q := ⟨h.le, h.rd.below hb, h.ap⟩
theorem Row.only (h : Row S w A c q) (ho : OnlyIn S w w') : Row S w' A c q := by
  obtain ⟨h1, ⟨h2, h3, h4⟩, h5⟩ := h
  refine ⟨h1, ⟨h2, h3, fun hn => ?_⟩, h5⟩
  obtain ⟨ad, rfl, h6⟩ := h4 hn
  refine ⟨ad, rfl, fun j hj => ?_⟩
  have e := h6 j hj
  have hblk : (ad.add j).block = ad.block := by unfold Addr.add; split <;> rfl
  rw [ho.cell (World.block_lt_of_cell? _ _ e) (by rw [hblk]; exact h5 ad rfl)]
  exact e
theorem Row.cell (h : Row S w A c q) (j : Nat) (hj : j < q.length) : ∃ ad, A = some ad ∧ w.cell? (ad.add j) = some (.int .i64 (q[j] : Int)) := by
  obtain ⟨ad, hA, hc⟩ := h.rd.2.2 (by omega)
  refine ⟨ad, hA, ?_⟩
  rw [hc j hj]
  simp [natI, List.getD_eq_getElem?_getD, hj]
theorem Row.of_own {B : Nat} {v : Value} (h : w.ownsRow B 3 1 v q.length (nums .i64 (natI q))) (hS : ∀ x ∈ S, v.ownBlock ≠ some x) : ∃ A c, v = .slice A q.length c ∧ Row S w A c q := by
  obtain ⟨A, c, rfl, hr⟩ := own_reads h
  refine ⟨A, c, rfl, ?_, hr, fun a ha hm => hS _ hm (by rw [ha]; rfl)⟩
  rcases h.2 with ⟨e, hn⟩ | ⟨g, cap, cur, e, hb, _, hc, _⟩
  · omega
  · injection e with e1 e2 e3
    omega
end
/-- What holds between two statements. -/
structure IV (W : World) (t f fl fh ob n : Nat) (w : World) (A : Option Addr) (c : Nat) (q : List Nat) (out : List Bool) (ret : Nat) : Prop where
  tb : Tb w t f fl fh 2 9 n q out (ret : Int)
  ol : HoldsV 4 w ob ((out.take n).map .bool)
  row : Row [t, f, fl, fh, ob] w A c q
  dis : ∀ j, out[j]?.getD false = true → j ∉ q
  below : Below W.heap.size W w
section
variable {W : World} {t f fl fh ob n : Nat} {w w' : World} {A : Option Addr} {c : Nat} {q : List Nat} {out : List Bool} {ret : Nat}
theorem IV.next (h : IV W t f fl fh ob n w A c q out ret) (hb : Below w.heap.size w w') : IV W t f fl fh ob n w' A c q out ret :=
  ⟨h.tb.below' hb, h.ol.below' hb, h.row.below hb, h.dis, h.below.trans (hb.mono h.below.size)⟩
/-- The table did something. -/
theorem IV.did (h : IV W t f fl fh ob n w A c q out ret) (hob : ob ≠ t ∧ ob ≠ f ∧ ob ≠ fl ∧ ob ≠ fh) (hg : W.heap.size ≤ t ∧ W.heap.size ≤ f ∧ W.heap.size ≤ fl ∧ W.heap.size ≤ fh) (ho : OnlyIn [t, f, fl, fh] w w') :
    HoldsV 4 w' ob ((out.take n).map .bool) ∧ Row [t, f, fl, fh, ob] w' A c q ∧ Below W.heap.size W w' :=
  ⟨ho.blk (by simp; omega) h.ol, h.row.only ⟨ho.os, ho.tape, ho.output, ho.size, fun k hk hn => ho.block k hk (fun hm => hn (by simp at hm ⊢; omega))⟩, ho.below h.below (by intro x hx; simp at hx; omega) h.below.size⟩
theorem IV.ocell (h : IV W t f fl fh ob n w A c q out ret) (j : Nat) (hj : j < n) : w.cell? ⟨ob, j, none⟩ = some (.bool (out[j]?.getD false)) := by
  have h1 := h.tb.len
  have h2 := h.tb.k16
  rw [h.ol.cell, List.getElem?_map, List.getElem?_take, if_pos hj, List.getElem?_eq_getElem (show j < out.length by omega)]
  rfl
end
theorem set_map (out : List Bool) (n i : Nat) (b : Bool) : ((out.take n).map Value.bool).set i (.bool b) = ((out.set i b).take n).map Value.bool := by
  rw [← List.map_set, List.take_set]
theorem tb_out {w : World} {t f fl fh k : Nat} {base gens ret : Int} {q : List Nat} {out out2 : List Bool} (h : Tb w t f fl fh base gens k q out ret) (e : out = out2) : Tb w t f fl fh base gens k q out2 ret := e ▸ h
/-- 'left': all of these are picked, in this order. -/
theorem left_at (W : World) (t f fl fh n : Nat) (A : Option Addr) (c : Nat) (S : List Nat) (q0 : List Nat) (out : List Bool) (ret : Int) (w : World) (hS : ∀ x ∈ [t, f, fl, fh], x ∈ S) (h : Tb w t f fl fh 2 9 n q0 out ret) (hr : Row S w A c q0) (hb : Below W.heap.size W w) (hg : W.heap.size ≤ t ∧ W.heap.size ≤ f ∧ W.heap.size ≤ fl ∧ W.heap.size ≤ fh) :
    Calls Tryd.prog 43 #[.pointer (some ⟨t, 0, none⟩), .slice A q0.length c] w fun r w' => r = .returned (.int .i64 (q0.length : Int)) ∧ Below W.heap.size W w' := by
  have H := Aside0.mk h
  have HR := Aside0.mk hr
  have HB := Aside0.mk hb
  have HGE := Aside0.mk (show ∀ x ∈ [t, f, fl, fh], W.heap.size ≤ x by intro x hx; simp at hx; omega)
  have SUB := Aside0.mk hS
  have hq16 : q0.length ≤ 16 := by have := h.fr.short; have := h.k16; omega
  clear h hr hb hS hg
  go_enter Tryd.func43, Tryd.ntmps43
  go_wp2_with fail
  go_loopg [5, 6, 7] q0.length (fun gg v5 v6 v7 wx => ∃ (i : Nat) (out : List Bool), gg + i = q0.length ∧ v5 = .int .i64 (i : Int) ∧ Tb wx t f fl fh 2 9 n (q0.drop i) out ret ∧ Row S wx A c q0 ∧ Below W.heap.size W wx)
  case atStart => exact ⟨0, out, by omega, rfl, H.out, HR.out, HB.out⟩
  case round =>
    clear H HR HB
    obtain ⟨i, out, hi, rfl, hT, hR, hB⟩ := hrel
    have H := Aside0.mk hT
    have HR := Aside0.mk hR
    have HB := Aside0.mk hB
    have HI := Aside0.mk hi
    clear hT hR hB hi
    by_cases hlt : i < q0.length
    · have d1 : decide ((i : Int) < (q0.length : Int)) = true := decide_eq_true (by omega)
      have hd : q0.drop i = q0[i] :: q0.drop (i + 1) := List.drop_eq_getElem_cons hlt
      have HD := Aside0.mk (show Tb wr t f fl fh 2 9 n (q0[i] :: q0.drop (i + 1)) out ret from hd ▸ H.out)
      obtain ⟨ad, rfl, hc⟩ := HR.out.cell i hlt
      obtain ⟨x, hx⟩ : ∃ x, q0[i] = x := ⟨_, rfl⟩
      rw [hx] at hc HD
      have HXQ := Aside0.mk hx
      clear hd hx H hc
      go_wp2_with fail
      refine (pick_some x HD.out).mono ?_
      rintro e w2 ⟨rfl, h1, h2⟩
      have H2 := Aside0.mk h1
      have R2 := Aside0.mk (HR.out.only (w' := w2) ⟨h2.os, h2.tape, h2.output, h2.size, fun k hk hn => h2.block k hk (fun hm => hn (SUB.out k hm))⟩)
      have B2 := Aside0.mk (h2.below HB.out HGE.out HB.out.size)
      obtain ⟨ad2, e2, hc2⟩ := R2.out.cell i hlt
      injection e2 with e2
      subst e2
      rw [HXQ.out] at hc2
      clear h1 h2
      go_wp2_with fail
      go_roundg (q0.length - (i + 1))
      case measure => have := HI.out; omega
      case rel => exact ⟨i + 1, _, by have := HI.out; omega, by go_num, H2.out, R2.out, B2.out⟩
    · have d1 : decide ((i : Int) < (q0.length : Int)) = false := decide_eq_false (by omega)
      obtain rfl : i = q0.length := by have := HI.out; omega
      have H2 := Aside0.mk (show Tb wr t f fl fh 2 9 n [] out ret from by have h := H.out; rw [List.drop_length] at h; exact h)
      clear H
      go_wp2_with fail
      refine (pick_none H2.out).mono ?_
      rintro e w2 ⟨rfl, h1, h2⟩
      have B2 := Aside0.mk (h2.below HB.out HGE.out HB.out.size)
      clear h1 h2
      go_wp2_with fail
      go_ret
      exact ⟨rfl, B2.out⟩

theorem in_take (out : List Bool) (x : Nat) (b : Bool) : ∀ j, (out.set x b)[j]?.getD false = true → (j = x ∧ b = true) ∨ (j ≠ x ∧ out[j]?.getD false = true) := fun j h => by
  rw [List.getElem?_set] at h
  by_cases hj : x = j
  · subst hj
    rw [if_pos rfl] at h
    by_cases hl : x < out.length
    · rw [if_pos hl] at h
      exact Or.inl ⟨rfl, by simpa using h⟩
    · rw [if_neg hl] at h
      simp at h
  · rw [if_neg hj] at h
    exact Or.inr ⟨Ne.symm hj, h⟩
theorem may_ok (n : Nat) (h : 1 ≤ n ∧ n ≤ 8) : PTableMay.table_May.f 2 (n : Int) 9 = some true := by
  unfold PTableMay.table_May.f
  have h1 : (n : Int) ≥ 1 := by omega
  have h2 : (n : Int) ≤ 16 := by omega
  have h3 : (2 : Int) ≤ wrap64 (16384 - (n : Int)) := by rw [w64 _ (by omega) (by omega)]; omega
  rw [if_pos h1, if_pos h2, if_pos (by omega), if_pos h3, if_pos (by omega)]
  simp
theorem range_snoc (j : Nat) : natI (List.range j) ++ [(j : Int)] = natI (List.range (j + 1)) := by
  unfold natI; rw [List.range_succ, List.map_append]; rfl
theorem own_lit2 (w : World) (cs : Array Value) (B : Nat) (hB : B ≤ w.heap.size) : ((w.alloc (.cells cs 4)).alloc (.cells #[] 3)).drew.ownsRow B 3 1 (.slice (some ⟨w.heap.size + 1, 0, none⟩) 0 0) 0 [] :=
  ⟨rfl, Or.inr ⟨w.heap.size + 1, 0, #[], rfl, by omega, heap_new' _ (by simp), Nat.le_refl _, by simp, rfl, rfl⟩⟩
theorem tb_only {w w' : World} {t f fl fh ob k : Nat} {base gens ret : Int} {q : List Nat} {out : List Bool} (h : Tb w t f fl fh base gens k q out ret) (ho : OnlyIn [ob] w w') (hob : ob ≠ t ∧ ob ≠ f ∧ ob ≠ fl ∧ ob ≠ fh) : Tb w' t f fl fh base gens k q out ret :=
  ⟨ho.blk (by simp; omega) h.box, h.fr.moved fun b hb => ho.block b (h.fr.lt b hb) (by rcases hb with rfl | rfl | rfl <;> simp <;> omega), h.len, h.ne, h.k16, h.b, h.r⟩
theorem rep_get (n j : Nat) : (List.replicate n false)[j]?.getD false = false := by
  rw [List.getElem?_replicate]
  split <;> rfl
theorem min_lt (n l : Nat) (h : l ≤ 9223372036854775807) : (if (60 : Int) < (l : Int) then (60 : Int) else (l : Int)) = ((min l 60 : Nat) : Int) := by split <;> omega
set_option maxHeartbeats 8000000 in
set_option maxRecDepth 100000 in
theorem core (a0 : Int) (n : Nat) (A1 : Option Addr) (l : List (Pts [.int .i64, .int .i64])) (c1 : Nat) (W : World) (gl : LaidSlot.Cells W) (hn : Go.bits .and .i64 a0 7 + 1 = (n : Int)) (hn1 : 1 ≤ n ∧ n ≤ 8) (hl : l.length ≤ 9223372036854775807)
    (ro : ∀ i (h : i < l.length), ∃ a, A1 = some a ∧ W.cell? (a.add (i * 2)) = some (.int .i64 (l[i]).1) ∧ W.cell? ⟨(a.add (i * 2)).block, (a.add (i * 2)).off + 1, none⟩ = some (.int .i64 (l[i]).2.1)) :
    Calls Tryd.prog 11 #[.int .i64 a0, .slice A1 l.length c1] W fun e W' => e = .returned (.bool true) ∧ Below W.heap.size W W' := by
  have hz := Slot.Cells.size gl
  have GL := Aside0.mk gl
  have HRO := Aside0.mk ro
  have HN := Aside0.mk hn1
  have HLL := Aside0.mk hl
  have hu70 := Tryd.underlying70
  have M2 : ∀ W : World, (Instr.makeSlice 50 (.int .i64 (n : Int)) (.int .i64 (n : Int))).run Tryd.prog W = .ok (.slice (some ⟨W.heap.size, 0, none⟩) n n) (W.alloc (.cells (Free.bools (List.replicate n false)).toArray 4)) := fun W => by
    have := print_make_of (P := Tryd.prog) 50 4 (.bool false) 1 Tryd.underlying50 Free.info4 rfl (by decide) n (by omega) W
    rwa [Free.made_bools] at this
  have W0 := Aside0.mk (show ∃ x : Nat, x < 2 ^ 64 ∧ stN x = 0 ∧ ∀ w : World, LaidSlot.Cells w → Calls Tryd.prog 23 #[.int .i64 3, .int .i64 0] w fun r w' => r = .returned (.int .u64 (x : Int)) ∧ Below w.heap.size w w' from
    ⟨wordN 3 0, wordN_lt _ _, wordN_st 3 0, fun w g => Slot.word_calls 3 0 3 0 w g (by kernel_rfl) (by kernel_rfl) (by omega) (by omega)⟩)
  have W3 := Aside0.mk (show ∃ x : Nat, x < 2 ^ 64 ∧ stN x = 3 ∧ ∀ w : World, LaidSlot.Cells w → Calls Tryd.prog 23 #[.int .i64 9, .int .i64 3] w fun r w' => r = .returned (.int .u64 (x : Int)) ∧ Below w.heap.size w w' from
    ⟨wordN 9 3, wordN_lt _ _, wordN_st 9 3, fun w g => Slot.word_calls 9 3 9 3 w g (by kernel_rfl) (by kernel_rfl) (by omega) (by omega)⟩)
  have W1 := Aside0.mk (show ∃ x : Nat, x < 2 ^ 64 ∧ stN x = 1 ∧ ∀ w : World, LaidSlot.Cells w → Calls Tryd.prog 23 #[.int .i64 3, .int .i64 1] w fun r w' => r = .returned (.int .u64 (x : Int)) ∧ Below w.heap.size w w' from
    ⟨wordN 3 1, wordN_lt _ _, wordN_st 3 1, fun w g => Slot.word_calls 3 1 3 1 w g (by kernel_rfl) (by kernel_rfl) (by omega) (by omega)⟩)
  clear gl ro hl
  go_enter Tryd.func11, Tryd.ntmps11
  go_wp2_with fail
  refine (Table.new_at 2 9 n W (may_ok n HN.out) (by have := HN.out; omega) (by omega)).mono ?_
  rintro e w1 ⟨t, f, fl, fh, rfl, hT, hg, hb⟩
  have T1 := Aside0.mk hT
  have B1 := Aside0.mk hb
  have HG := Aside0.mk hg
  have TLT := Aside0.mk (show t < w1.heap.size ∧ f < w1.heap.size ∧ fl < w1.heap.size ∧ fh < w1.heap.size from ⟨hT.box.lt, hT.fr.lt f (by simp), hT.fr.lt fl (by simp), hT.fr.lt fh (by simp)⟩)
  clear hT hg hb
  go_upto_region 3 with fail
  go_cut [7, 8, 9] from 22 to 24 (fun v7 v8 v9 wx => ∃ lb ob, v7 = .slice (some ⟨lb, 0, none⟩) 0 0 ∧ v8 = .slice (some ⟨ob, 0, none⟩) n n ∧ v9 = .int .i64 0 ∧ wx.ownsRow w1.heap.size 3 1 (.slice (some ⟨lb, 0, none⟩) 0 0) 0 [] ∧ HoldsV 4 wx ob (Free.bools (List.replicate n false)) ∧ lb ≠ ob ∧ w1.heap.size ≤ ob ∧ Below w1.heap.size w1 wx)
  case first =>
    go_region
    all_goals go_wp2
    all_goals go_meet
    · exact ⟨_, _, rfl, rfl, rfl, Arena.own_below (own_lit w1 w1.heap.size 3 .i64 [] (Nat.le_refl _) (by simp)) ((Below.refl _ _).alloc (Nat.le_refl _) _).drew, heap_new' _ (by simp), by omega, by omega, (((Below.refl _ _).alloc (Nat.le_refl _) _).alloc (by simp) _).drew⟩
    · exact ⟨_, _, rfl, rfl, rfl, own_lit2 w1 _ _ (Nat.le_refl _), heap_old (heap_new _ _), by omega, by omega, (((Below.refl _ _).alloc (Nat.le_refl _) _).alloc (by simp) _).drew⟩
  case rest =>
    obtain ⟨lb, ob, rfl, rfl, rfl, ho, hob, hne, hge, hb⟩ := hcut
    have HO := Aside0.mk (show _ ∧ _ ∧ _ ∧ _ from ⟨ho, hob, hne, hb⟩)
    have HOB := Aside0.mk (show ob ≠ t ∧ ob ≠ f ∧ ob ≠ fl ∧ ob ≠ fh by have := TLT.out; omega)
    have HOBG := Aside0.mk (show W.heap.size ≤ ob from Nat.le_trans B1.out.size hge)
    clear ho hob hne hge hb
    go_wp2_with fail
    go_loopg [7, 10] n (fun gg v7 v10 wx => ∃ j : Nat, gg + j = n ∧ v10 = .int .i64 (j : Int) ∧ wx.ownsRow w1.heap.size 3 1 v7 (natI (List.range j)).length (nums .i64 (natI (List.range j))) ∧ v7.ownBlock ≠ some ob ∧ HoldsV 4 wx ob (Free.bools (List.replicate n false)) ∧ Below w1.heap.size w1 wx)
    case atStart => exact ⟨0, by omega, rfl, HO.out.1, by have := HO.out.2.2.1; simpa [Value.ownBlock] using this, HO.out.2.1, HO.out.2.2.2⟩
    case round =>
      clear HO
      obtain ⟨j, hj, rfl, ho, hnb, hob, hb⟩ := hrel
      have HO := Aside0.mk ho
      have HNB := Aside0.mk hnb
      have HB := Aside0.mk hb
      have HOL := Aside0.mk hob
      have HJ := Aside0.mk hj
      clear ho hnb hob hb hj
      by_cases hlt : j < n
      · have d1 : decide ((j : Int) < (n : Int)) = true := decide_eq_true (by omega)
        have HE := Aside0.mk (range_snoc j)
        have HJ8 := Aside0.mk hlt
        go_wp2_with (first | ((with_reducible refine gate_builtin (b := .append) (xs := #[.tmp 30, .tmp 32]) rfl ?_); at_builtin; refine print_append_num (w0 := w1) w1.heap.size rfl (.tmp 30) (.tmp 32) 71 3 .i64 8 rfl Tryd.underlying71 Free.info3 (by decide) u7 (natI (List.range j)) (j : Int) rfl rfl HO.out HB.out HB.out.size (by simp [natI]; have := HN.out; have := HJ8.out; omega) ?_; intro v1 w3 ho hb hg hat; rw [HE.out] at ho; have HO3 := Aside0.mk ho; have HB3 := Aside0.mk hb; have HG3 := Aside0.mk (And.intro hg hat); clear hg hat ho hb))
        go_roundg (n - (j + 1))
        case measure => have := HJ.out; omega
        case rel =>
          refine ⟨j + 1, by have := HJ.out; omega, by have := HN.out; go_num, HO3.out, ?_, (HG3.out.1.block ob HOL.out.lt (fun e => HNB.out e.symm)).trans HOL.out, HB3.out⟩
          rcases HG3.out.2 with e | ⟨b, e, hb⟩
          · rw [e]; exact HNB.out
          · rw [e]; intro h; injection h with h; have := HOL.out.lt; omega
      · have d1 : decide ((j : Int) < (n : Int)) = false := decide_eq_false (by omega)
        obtain rfl : j = n := by have := HJ.out; omega
        have HIV := Aside0.mk (show ∃ A c, u7 = .slice A (List.range j).length c ∧ IV W t f fl fh ob j wr A c (List.range j) (List.replicate 16 false) 0 from by
          obtain ⟨A, c, e, hr⟩ := Row.of_own (q := List.range j) (S := [t, f, fl, fh, ob]) (by have := HO.out; simpa [natI] using this) (by
            intro x hx
            have hb := own_base HO.out
            simp at hx
            rcases hx with rfl | rfl | rfl | rfl | rfl
            · intro e; have := hb _ e; have := TLT.out; omega
            · intro e; have := hb _ e; have := TLT.out; omega
            · intro e; have := hb _ e; have := TLT.out; omega
            · intro e; have := hb _ e; have := TLT.out; omega
            · exact HNB.out)
          have hj8 := HN.out
          refine ⟨A, c, e, (T1.out.below' HB.out : Tb wr t f fl fh 2 9 j (List.range j) (List.replicate 16 false) 0), ?_, hr, (fun x hx => by rw [rep_get] at hx; cases hx), B1.out.trans (HB.out.mono B1.out.size)⟩
          have h := HOL.out
          rw [List.take_replicate, Nat.min_eq_left (by omega)]
          exact h)
        obtain ⟨A0, c0, rfl, hI0⟩ := HIV.out
        have HI0 := Aside0.mk hI0
        clear HIV hI0 HO HNB HB HOL HJ T1 B1 d1 hlt M2
        rw [List.length_range]
        go_wp2_with fail
        go_loopg [7, 9, 11, 12, 13, 14, 15] (min l.length 60) (fun gg v7 v9 v11 v12 v13 v14 v15 wx => ∃ (i ret : Nat) (A : Option Addr) (c : Nat) (q : List Nat) (out : List Bool), gg + i = min l.length 60 ∧ v11 = .int .i64 (i : Int) ∧ v7 = .slice A q.length c ∧ v9 = .int .i64 (ret : Int) ∧ ret ≤ i ∧ IV W t f fl fh ob j wx A c q out ret)
        case atStart => exact ⟨0, 0, A0, c0, List.range j, List.replicate 16 false, by omega, rfl, by rw [List.length_range], rfl, Nat.le_refl _, HI0.out⟩
        case round =>
          clear HI0 A0 c0
          obtain ⟨i, ret, A, c, q, out, hi, rfl, rfl, rfl, hret, hI⟩ := hrel
          have HI := Aside0.mk hI
          have HII := Aside0.mk (And.intro hi hret)
          clear hI hret
          by_cases hlt : i < l.length ∧ i < 60
          · obtain ⟨hil, hi60⟩ := hlt
            have d1 : decide ((i : Int) < (l.length : Int)) = true := decide_eq_true (by omega)
            have d2 : decide ((i : Int) < 60) = true := decide_eq_true (by omega)
            obtain ⟨a, rfl, ca, cb⟩ := HRO.out i hil
            obtain ⟨kd, hkd⟩ : ∃ y, (l[i]).1 = y := ⟨_, rfl⟩
            obtain ⟨nx, hnx⟩ : ∃ y, (l[i]).2.1 = y := ⟨_, rfl⟩
            rw [hkd] at ca
            rw [hnx] at cb
            have ha := World.block_lt_of_cell? _ _ ca
            have cw := (HI.out.below.cell (p := a.add (i * 2)) ha).trans ca
            have dw := (HI.out.below.cell (p := ⟨(a.add (i * 2)).block, (a.add (i * 2)).off + 1, none⟩) ha).trans cb
            obtain ⟨x, hx, hx15⟩ : ∃ m : Nat, Go.bits .and .i64 nx 15 = (m : Int) ∧ m ≤ 15 := ⟨(nx % 16).toNat, by rw [i64_and15]; omega, by omega⟩
            obtain ⟨k15, hk15, hk15b⟩ : ∃ m : Nat, Go.bits .and .i64 kd 15 = (m : Int) ∧ m ≤ 15 := ⟨(kd % 16).toNat, by rw [i64_and15]; omega, by omega⟩
            obtain ⟨r, hr1, hr2, hr5⟩ : ∃ r : Nat, (k15 : Int).tmod 5 = (r : Int) ∧ (k15 : Int) % 5 = (r : Int) ∧ r < 5 := ⟨k15 % 5, rfl, by omega, Nat.mod_lt _ (by omega)⟩
            obtain ⟨isv, hisv⟩ : ∃ b, (decide (x < j) && out[x]?.getD false) = b := ⟨_, rfl⟩
            have HIS := Aside0.mk hisv
            have HX15 := Aside0.mk hx15
            clear hkd hnx ca cb ha hisv hi
            go_upto_region 12 with fail
            go_cut [13] from 50 to 58 (fun v wx => v = .bool isv ∧ wx = wr)
            case first =>
              by_cases hxn : x < j
              · have e1 : decide ((x : Int) < (j : Int)) = true := decide_eq_true (by omega)
                have co := HI.out.ocell x hxn
                have e2 : out[x]?.getD false = isv := by rw [← HIS.out, decide_eq_true hxn, Bool.true_and]
                rw [e2] at co
                clear e2
                go_wp2_with fail
                go_meet
                exact ⟨rfl, rfl⟩
              · have e1 : decide ((x : Int) < (j : Int)) = false := decide_eq_false (by omega)
                obtain rfl : isv = false := by rw [← HIS.out, decide_eq_false hxn, Bool.false_and]
                go_wp2_with fail
                go_meet
                exact ⟨rfl, rfl⟩
            case rest =>
              obtain ⟨rfl, rfl⟩ := hcut
              go_upto_block 4 with fail
              go_cut [7, 9] from 66 to 129 (fun v7 v9 wx => ∃ (A' : Option Addr) (c' : Nat) (q' : List Nat) (out' : List Bool) (ret' : Nat), v7 = .slice A' q'.length c' ∧ v9 = .int .i64 (ret' : Int) ∧ ret' ≤ i + 1 ∧ IV W t f fl fh ob j wx A' c' q' out' ret')
              case first =>
                have BACKF := Aside0.mk (fun (hf : isv = false) (w : World) (x0 : Nat) (hx0 : x0 < 2 ^ 64) (gw : LaidSlot.Cells w) (hT : Tb w t f fl fh 2 9 j q out (ret : Int)) => (show Calls Tryd.prog 38 #[.pointer (some ⟨t, 0, none⟩), .int .i64 (x : Int), .int .u64 (x0 : Int)] w fun r w' => r = .returned (.bool false) ∧ Tb w' t f fl fh 2 9 j q out (ret : Int) ∧ OnlyIn [t, f, fl, fh] w w' from by
                  by_cases hxn : x < j
                  · exact back_not x x0 hx0 gw hxn (by have h := HIS.out; rw [hf, decide_eq_true hxn, Bool.true_and] at h; exact h) hT
                  · exact back_far (x : Int) x0 hx0 gw (Or.inr (by omega)) hT))
                have HTR := Aside0.mk (fun (hf : isv = true) => (show x < j ∧ out[x]?.getD false = true from by
                  have h := HIS.out
                  rw [hf, Bool.and_eq_true, decide_eq_true_eq] at h
                  exact h))
                have hr : r = 0 ∨ r = 1 ∨ r = 2 ∨ r = 3 ∨ r = 4 := by omega
                have HR := Aside0.mk hr
                clear hr hr5 hr1 hr2 hk15 hk15b cw dw hx hx15
                obtain ⟨x0, hx0, hs0, WC0⟩ := W0.out
                obtain ⟨x1, hx1, hs1, WC1⟩ := W1.out
                obtain ⟨x3, hx3, hs3, WC3⟩ := W3.out
                have HW0 := Aside0.mk (And.intro hx0 (And.intro hs0 WC0))
                have HW1 := Aside0.mk (And.intro hx1 (And.intro hs1 WC1))
                have HW3 := Aside0.mk (And.intro hx3 (And.intro hs3 WC3))
                clear hx0 hs0 WC0 hx1 hs1 WC1 hx3 hs3 WC3
                rcases HR.out with rfl | rfl | rfl | rfl | rfl
                · cases q with
                  | nil =>
                    go_wp2_with fail
                    refine (pick_none HI.out.tb).mono ?_
                    rintro e w5 ⟨rfl, h1, h2⟩
                    obtain ⟨g1, g2, g3⟩ := HI.out.did HOB.out HG.out h2
                    have I5 := Aside0.mk (show IV W t f fl fh ob j w5 A c [] out ret from ⟨h1, g1, g2, HI.out.dis, g3⟩)
                    clear h1 h2 g1 g2 g3
                    go_wp2_with fail
                    go_meet
                    exact ⟨A, c, [], out, ret, rfl, rfl, by have := HII.out.2; omega, I5.out⟩
                  | cons y tl =>
                    obtain ⟨ad, rfl, cm⟩ := HI.out.row.cell 0 (by simp)
                    obtain ⟨A', hcut1, hrd, hblk⟩ := cut1 (some ad) (tl.length + 1) c (by omega)
                    have HRD := Aside0.mk hrd
                    have HBLK := Aside0.mk hblk
                    have hyj : y < j := HI.out.tb.fr.low y (by simp)
                    have hnd := HI.out.tb.fr.nodup
                    have HND := Aside0.mk (List.nodup_cons.1 hnd)
                    simp only [List.getElem_cons_zero, List.length_cons] at cm ⊢
                    obtain ⟨m, hm⟩ : ∃ m, tl.length = m := ⟨_, rfl⟩
                    rw [hm] at hcut1 ⊢
                    have HM := Aside0.mk hm
                    have e1 : decide ((0 : Int) < ((m + 1 : Nat) : Int)) = true := decide_eq_true (by omega)
                    clear hrd hblk hm hnd
                    go_wp2_with fail
                    refine (pick_some y HI.out.tb).mono ?_
                    rintro e w5 ⟨rfl, h1, h2⟩
                    obtain ⟨g1, g2, g3⟩ := HI.out.did HOB.out HG.out h2
                    have T5 := Aside0.mk h1
                    have OL5 := Aside0.mk g1
                    have R5 := Aside0.mk g2
                    have B5 := Aside0.mk g3
                    obtain ⟨ad2, e2, cm5⟩ := g2.cell 0 (by simp)
                    injection e2 with e2
                    subst e2
                    simp only [List.getElem_cons_zero] at cm5
                    have cm6 : w5.cell? ad = some (.int .i64 (y : Int)) := by have h := cm5; unfold Addr.add at h; simpa using h
                    have co5 : w5.cell? ⟨ob, y, none⟩ = some (.bool (out[y]?.getD false)) := by
                      have h3 := HI.out.tb.len
                      have h4 := HN.out
                      rw [OL5.out.cell, List.getElem?_map, List.getElem?_take, if_pos hyj, List.getElem?_eq_getElem (show y < out.length by omega)]
                      rfl
                    have fo5 := OL5.out.free y
                    clear h1 h2 g1 g2 g3 cm cm5
                    go_wp2_with fail
                    go_meet
                    have OI6 := (show OnlyIn [t, f, fl, fh, ob] w5 (w5.setCell ⟨ob, y, none⟩ (.bool true)) from (OnlyIn.refl _ _).set _ _ (by simp))
                    have hr6 := R5.out.only OI6
                    have hrd6 := HRD.out _ _ (by have h1 := hr6.le; simp only [List.length_cons] at h1; exact h1) (by have h := hr6.rd; simp only [List.length_cons] at h; exact h)
                    exact ⟨A', c - 1, tl, out.set y true, ret, by rw [HM.out], rfl, by have := HII.out.2; omega, ⟨tb_only T5.out ((OnlyIn.refl _ _).set _ _ (by simp)) HOB.out, by rw [← set_map]; exact OL5.out.set y _, ⟨by have h1 := hr6.le; simp only [List.length_cons] at h1; omega, by simpa [natI] using hrd6, fun a' ha' => by
                      obtain ⟨a0, e0, e1⟩ := HBLK.out a' ha'
                      rw [← e1]
                      exact hr6.ap a0 e0⟩, fun z hz2 => by
                      rcases in_take out y true z hz2 with ⟨h, _⟩ | ⟨h1, h2⟩
                      · rw [h]; exact HND.out.1
                      · have := HI.out.dis z h2
                        simp at this
                        exact this.2, OI6.below B5.out (by have := HG.out; have := HOBG.out; intro y hy; simp at hy; omega) B5.out.size⟩⟩
                · cases q with
                  | nil =>
                    go_wp2_with fail
                    refine (pick_none HI.out.tb).mono ?_
                    rintro e w5 ⟨rfl, h1, h2⟩
                    obtain ⟨g1, g2, g3⟩ := HI.out.did HOB.out HG.out h2
                    have I5 := Aside0.mk (show IV W t f fl fh ob j w5 A c [] out ret from ⟨h1, g1, g2, HI.out.dis, g3⟩)
                    clear h1 h2 g1 g2 g3
                    go_wp2_with fail
                    go_meet
                    exact ⟨A, c, [], out, ret, rfl, rfl, by have := HII.out.2; omega, I5.out⟩
                  | cons y tl =>
                    obtain ⟨ad, rfl, cm⟩ := HI.out.row.cell 0 (by simp)
                    obtain ⟨A', hcut1, hrd, hblk⟩ := cut1 (some ad) (tl.length + 1) c (by omega)
                    have HRD := Aside0.mk hrd
                    have HBLK := Aside0.mk hblk
                    have hyj : y < j := HI.out.tb.fr.low y (by simp)
                    have hnd := HI.out.tb.fr.nodup
                    have HND := Aside0.mk (List.nodup_cons.1 hnd)
                    simp only [List.getElem_cons_zero, List.length_cons] at cm ⊢
                    obtain ⟨m, hm⟩ : ∃ m, tl.length = m := ⟨_, rfl⟩
                    rw [hm] at hcut1 ⊢
                    have HM := Aside0.mk hm
                    have e1 : decide ((0 : Int) < ((m + 1 : Nat) : Int)) = true := decide_eq_true (by omega)
                    clear hrd hblk hm hnd
                    go_wp2_with fail
                    refine (pick_some y HI.out.tb).mono ?_
                    rintro e w5 ⟨rfl, h1, h2⟩
                    obtain ⟨g1, g2, g3⟩ := HI.out.did HOB.out HG.out h2
                    have T5 := Aside0.mk h1
                    have OL5 := Aside0.mk g1
                    have R5 := Aside0.mk g2
                    have B5 := Aside0.mk g3
                    obtain ⟨ad2, e2, cm5⟩ := g2.cell 0 (by simp)
                    injection e2 with e2
                    subst e2
                    simp only [List.getElem_cons_zero] at cm5
                    have cm6 : w5.cell? ad = some (.int .i64 (y : Int)) := by have h := cm5; unfold Addr.add at h; simpa using h
                    have co5 : w5.cell? ⟨ob, y, none⟩ = some (.bool (out[y]?.getD false)) := by
                      have h3 := HI.out.tb.len
                      have h4 := HN.out
                      rw [OL5.out.cell, List.getElem?_map, List.getElem?_take, if_pos hyj, List.getElem?_eq_getElem (show y < out.length by omega)]
                      rfl
                    have fo5 := OL5.out.free y
                    clear h1 h2 g1 g2 g3 cm cm5
                    go_wp2_with fail
                    go_meet
                    have OI6 := (show OnlyIn [t, f, fl, fh, ob] w5 (w5.setCell ⟨ob, y, none⟩ (.bool true)) from (OnlyIn.refl _ _).set _ _ (by simp))
                    have hr6 := R5.out.only OI6
                    have hrd6 := HRD.out _ _ (by have h1 := hr6.le; simp only [List.length_cons] at h1; exact h1) (by have h := hr6.rd; simp only [List.length_cons] at h; exact h)
                    exact ⟨A', c - 1, tl, out.set y true, ret, by rw [HM.out], rfl, by have := HII.out.2; omega, ⟨tb_only T5.out ((OnlyIn.refl _ _).set _ _ (by simp)) HOB.out, by rw [← set_map]; exact OL5.out.set y _, ⟨by have h1 := hr6.le; simp only [List.length_cons] at h1; omega, by simpa [natI] using hrd6, fun a' ha' => by
                      obtain ⟨a0, e0, e1⟩ := HBLK.out a' ha'
                      rw [← e1]
                      exact hr6.ap a0 e0⟩, fun z hz2 => by
                      rcases in_take out y true z hz2 with ⟨h, _⟩ | ⟨h1, h2⟩
                      · rw [h]; exact HND.out.1
                      · have := HI.out.dis z h2
                        simp at this
                        exact this.2, OI6.below B5.out (by have := HG.out; have := HOBG.out; intro y hy; simp at hy; omega) B5.out.size⟩⟩
                · cases isv
                  · go_wp2_with fail
                    refine (HW0.out.2.2 _ (Slot.Cells.below GL.out HI.out.below hz)).mono ?_
                    rintro e w4 ⟨rfl, hb⟩
                    have I4 := Aside0.mk (HI.out.next hb)
                    clear hb
                    go_wp2_with fail
                    refine (BACKF.out (by first | exact rfl | exact trivial) _ x0 HW0.out.1 (Slot.Cells.below GL.out I4.out.below hz) I4.out.tb).mono ?_
                    rintro e w5 ⟨rfl, h1, h2⟩
                    obtain ⟨g1, g2, g3⟩ := I4.out.did HOB.out HG.out h2
                    have I5 := Aside0.mk (show IV W t f fl fh ob j w5 A c q out ret from ⟨h1, g1, g2, I4.out.dis, g3⟩)
                    clear h1 h2 g1 g2 g3
                    go_wp2_with fail
                    go_meet
                    exact ⟨A, c, q, out, ret, rfl, rfl, by have := HII.out.2; omega, I5.out⟩
                  · have hxt := HTR.out rfl
                    have hxj := hxt.1
                    have hxq := HI.out.dis x hxt.2
                    have hnd := HI.out.tb.fr.short
                    have HXT := Aside0.mk hxt
                    have HXQ := Aside0.mk hxq
                    have HQL := Aside0.mk (show q.length ≤ 8 by have := HN.out; omega)
                    clear hxt hxq hnd
                    go_wp2_with fail
                    refine (HW0.out.2.2 _ (Slot.Cells.below GL.out HI.out.below hz)).mono ?_
                    rintro e w4 ⟨rfl, hb⟩
                    have I4 := Aside0.mk (HI.out.next hb)
                    clear hb
                    go_wp2_with fail
                    refine (back_free x x0 HW0.out.1 (Slot.Cells.below GL.out I4.out.below hz) hxj HXT.out.2 HW0.out.2.1 HXQ.out I4.out.tb).mono ?_
                    rintro e w5 ⟨rfl, h1, h2⟩
                    obtain ⟨g1, g2, g3⟩ := I4.out.did HOB.out HG.out h2
                    have T5 := Aside0.mk h1
                    have OL5 := Aside0.mk g1
                    have R5 := Aside0.mk g2
                    have B5 := Aside0.mk g3
                    have co5 : w5.cell? ⟨ob, x, none⟩ = some (.bool (out[x]?.getD false)) := by
                      have h3 := I4.out.tb.len
                      have h4 := HN.out
                      rw [OL5.out.cell, List.getElem?_map, List.getElem?_take, if_pos hxj, List.getElem?_eq_getElem (show x < out.length by omega)]
                      rfl
                    have fo5 := OL5.out.free x
                    have OL6 := Aside0.mk (show HoldsV 4 (w5.setCell ⟨ob, x, none⟩ (.bool false)) ob (((out.set x false).take j).map .bool) from by rw [← set_map]; exact OL5.out.set x _)
                    have OI6 := Aside0.mk (show OnlyIn [t, f, fl, fh, ob] w5 (w5.setCell ⟨ob, x, none⟩ (.bool false)) from (OnlyIn.refl _ _).set _ _ (by simp))
                    clear h1 h2 g1 g2 g3
                    go_upto_region 25 with fail
                    have T6 := Aside0.mk (show Tb (w5.setCell ⟨ob, x, none⟩ (.bool false)) t f fl fh 2 9 j (q ++ [x]) (out.set x false) (ret : Int) from tb_only T5.out ((OnlyIn.refl _ _).set _ _ (by simp)) HOB.out)
                    have R6 := Aside0.mk (R5.out.only OI6.out)
                    have B6 := Aside0.mk (show Below W.heap.size W (w5.setCell ⟨ob, x, none⟩ (.bool false)) from OI6.out.below B5.out (by have := HG.out; have := HOBG.out; intro y hy; simp at hy; omega) B5.out.size)
                    obtain ⟨w6, hw6⟩ : ∃ ww, w5.setCell ⟨ob, x, none⟩ (.bool false) = ww := ⟨_, rfl⟩
                    rw [hw6] at OL6 T6 R6 B6 ⊢
                    clear hw6 OI6 co5 fo5 T5 OL5 R5 B5
                    have L6 := Aside0.mk (own_lit w6 w6.heap.size 3 .i64 [] (Nat.le_refl _) (by simp))
                    have RD6 := Aside0.mk (R6.out.rd.allocS (.cells #[] 3))
                    have BB6 := Aside0.mk (show Below w6.heap.size w6 (w6.alloc (.cells #[] 3)) from (Below.refl _ _).alloc (Nat.le_refl _) _)
                    go_wp2_with (first
                      | ((with_reducible refine gate_builtin (b := .append) (xs := #[.tmp 104, .tmp 105]) rfl ?_); at_builtin; refine print_append_row (w0 := w6) w6.heap.size rfl (.tmp 104) (.tmp 105) 71 3 .i64 8 rfl Tryd.underlying71 Free.info3 (by decide) (.slice (some ⟨w6.heap.size, 0, none⟩) 0 0) [] (natI q) A q.length c rfl rfl L6.out RD6.out BB6.out (by simp) (by have := HQL.out; simp; omega) ?_; intro v1 w7 ho7 hb7 hg hat; clear hg hat; rw [List.nil_append] at ho7; have HO7 := Aside0.mk ho7; have HB7 := Aside0.mk hb7; clear ho7 hb7)
                      | ((with_reducible refine gate_builtin (b := .append) (xs := #[.tmp 106, .tmp 108]) rfl ?_); at_builtin; refine print_append_num (w0 := w6) w6.heap.size rfl (.tmp 106) (.tmp 108) 71 3 .i64 8 rfl Tryd.underlying71 Free.info3 (by decide) v1 (natI q) (x : Int) rfl rfl HO7.out HB7.out HB7.out.size (by have := HQL.out; simp [natI]; omega) ?_; intro v2 w8 ho8 hb8 hg hat; clear hg hat; have HO8 := Aside0.mk ho8; have HB8 := Aside0.mk hb8; clear ho8 hb8))
                    go_meet
                    have hlt6 : t < w6.heap.size ∧ f < w6.heap.size ∧ fl < w6.heap.size ∧ fh < w6.heap.size ∧ ob < w6.heap.size := ⟨T6.out.box.lt, T6.out.fr.lt f (by simp), T6.out.fr.lt fl (by simp), T6.out.fr.lt fh (by simp), OL6.out.lt⟩
                    obtain ⟨A8, c8, rfl, hr8⟩ := Row.of_own (q := q ++ [x]) (S := [t, f, fl, fh, ob]) (by have := HO8.out; simpa [natI] using this) (by
                      intro y hy e
                      have hb := own_base HO8.out _ e
                      simp at hy
                      omega)
                    exact ⟨A8, c8, q ++ [x], out.set x false, ret, rfl, rfl, by have := HII.out.2; omega, ⟨T6.out.below' HB8.out, OL6.out.below' HB8.out, hr8, fun y hy => by
                      rcases in_take out x false y hy with ⟨_, h⟩ | ⟨h1, h2⟩
                      · cases h
                      · have := HI.out.dis y h2
                        simp [this, h1], B6.out.trans (HB8.out.mono B6.out.size)⟩⟩
                · cases isv
                  · go_wp2_with fail
                    refine (HW3.out.2.2 _ (Slot.Cells.below GL.out HI.out.below hz)).mono ?_
                    rintro e w4 ⟨rfl, hb⟩
                    have I4 := Aside0.mk (HI.out.next hb)
                    clear hb
                    go_wp2_with fail
                    refine (BACKF.out (by first | exact rfl | exact trivial) _ x3 HW3.out.1 (Slot.Cells.below GL.out I4.out.below hz) I4.out.tb).mono ?_
                    rintro e w5 ⟨rfl, h1, h2⟩
                    obtain ⟨g1, g2, g3⟩ := I4.out.did HOB.out HG.out h2
                    have I5 := Aside0.mk (show IV W t f fl fh ob j w5 A c q out ret from ⟨h1, g1, g2, I4.out.dis, g3⟩)
                    clear h1 h2 g1 g2 g3
                    go_wp2_with fail
                    go_meet
                    exact ⟨A, c, q, out, ret, rfl, rfl, by have := HII.out.2; omega, I5.out⟩
                  · have hxt := HTR.out rfl
                    have hxj := hxt.1
                    have HXT := Aside0.mk hxt
                    have hret60 : ret ≤ 60 := by have := HII.out; omega
                    clear hxt
                    go_wp2_with fail
                    refine (HW3.out.2.2 _ (Slot.Cells.below GL.out HI.out.below hz)).mono ?_
                    rintro e w4 ⟨rfl, hb⟩
                    have I4 := Aside0.mk (HI.out.next hb)
                    clear hb
                    go_wp2_with fail
                    refine (back_ret x x3 HW3.out.1 (Slot.Cells.below GL.out I4.out.below hz) hxj HXT.out.2 HW3.out.2.1 (by omega) I4.out.tb).mono ?_
                    rintro e w5 ⟨rfl, h1, h2⟩
                    obtain ⟨g1, g2, g3⟩ := I4.out.did HOB.out HG.out h2
                    have T5 := Aside0.mk h1
                    have OL5 := Aside0.mk g1
                    have R5 := Aside0.mk g2
                    have B5 := Aside0.mk g3
                    have co5 : w5.cell? ⟨ob, x, none⟩ = some (.bool (out[x]?.getD false)) := by
                      have h3 := I4.out.tb.len
                      have h4 := HN.out
                      rw [OL5.out.cell, List.getElem?_map, List.getElem?_take, if_pos hxj, List.getElem?_eq_getElem (show x < out.length by omega)]
                      rfl
                    have fo5 := OL5.out.free x
                    clear h1 h2 g1 g2 g3
                    go_wp2_with fail
                    go_meet
                    have OI6 := (show OnlyIn [t, f, fl, fh, ob] w5 (w5.setCell ⟨ob, x, none⟩ (.bool false)) from (OnlyIn.refl _ _).set _ _ (by simp))
                    exact ⟨A, c, q, out.set x false, ret + 1, rfl, by go_num, by have := HII.out.2; omega, ⟨tb_only (by have h := T5.out; rw [show ((ret : Int) + 1) = ((ret + 1 : Nat) : Int) by omega] at h; exact h) ((OnlyIn.refl _ _).set _ _ (by simp)) HOB.out, by rw [← set_map]; exact OL5.out.set x _, R5.out.only OI6, fun y hy => by
                      rcases in_take out x false y hy with ⟨_, h⟩ | ⟨h1, h2⟩
                      · cases h
                      · exact HI.out.dis y h2, OI6.below B5.out (by have := HG.out; have := HOBG.out; intro y hy; simp at hy; omega) B5.out.size⟩⟩
                · go_wp2_with fail
                  refine (HW1.out.2.2 _ (Slot.Cells.below GL.out HI.out.below hz)).mono ?_
                  rintro e w4 ⟨rfl, hb⟩
                  have I4 := Aside0.mk (HI.out.next hb)
                  clear hb
                  go_wp2_with fail
                  refine (show Calls Tryd.prog 38 #[.pointer (some ⟨t, 0, none⟩), .int .i64 (x : Int), .int .u64 (x1 : Int)] w4 fun r w' => r = .returned (.bool false) ∧ Tb w' t f fl fh 2 9 j q out (ret : Int) ∧ OnlyIn [t, f, fl, fh] w4 w' from by
                    cases hv : isv
                    · exact BACKF.out hv _ x1 HW1.out.1 (Slot.Cells.below GL.out I4.out.below hz) I4.out.tb
                    · exact back_state x x1 HW1.out.1 (Slot.Cells.below GL.out I4.out.below hz) (HTR.out hv).1 (HTR.out hv).2 (by rw [HW1.out.2.1]; omega) I4.out.tb).mono ?_
                  rintro e w5 ⟨rfl, h1, h2⟩
                  obtain ⟨g1, g2, g3⟩ := I4.out.did HOB.out HG.out h2
                  have I5 := Aside0.mk (show IV W t f fl fh ob j w5 A c q out ret from ⟨h1, g1, g2, I4.out.dis, g3⟩)
                  clear h1 h2 g1 g2 g3
                  go_wp2_with fail
                  go_meet
                  exact ⟨A, c, q, out, ret, rfl, rfl, by have := HII.out.2; omega, I5.out⟩
              case rest =>
                obtain ⟨A', c', q', out', ret', rfl, rfl, hr', hI'⟩ := hcut
                have J := Aside0.mk hI'
                have HR' := Aside0.mk hr'
                clear hI' hr'
                have kq : ((q'.length : Int) == (q'.length : Int)) = true := by simp
                have kr : ((ret' : Int) == (ret' : Int)) = true := by simp
                go_wp2_with fail
                refine (free_at J.out.tb).mono ?_
                rintro e w4 ⟨rfl, hb⟩
                have J4 := Aside0.mk (J.out.next hb)
                clear hb
                go_wp2_with fail
                refine (retired_at J4.out.tb).mono ?_
                rintro e w5 ⟨rfl, hb⟩
                have J5 := Aside0.mk (J4.out.next hb)
                clear hb
                go_wp2_with fail
                go_roundg (min l.length 60 - (i + 1))
                case measure => have := HII.out.1; omega
                case rel => exact ⟨i + 1, ret', A', c', q', out', by have := HII.out.1; omega, by go_num, rfl, rfl, HR'.out, J5.out⟩
          · have HE := Aside0.mk hlt
            clear hlt hi
            by_cases h1 : i < l.length
            · have d1 : decide ((i : Int) < (l.length : Int)) = true := decide_eq_true (by omega)
              have d2 : decide ((i : Int) < 60) = false := decide_eq_false (by have := HE.out; omega)
              have d3 : ¬ i < 60 := by have := HE.out; omega
              go_wp2_with fail
              refine (Table.awake_calls _ (Slot.Cells.below GL.out HI.out.below hz)).mono ?_
              rintro e w4 ⟨rfl, hb⟩
              have I4 := Aside0.mk (HI.out.next hb)
              clear hb
              go_wp2_with fail
              refine (left_at W t f fl fh j A c [t, f, fl, fh, ob] q out (ret : Int) _ (by intro x hx; simp at hx ⊢; omega) I4.out.tb I4.out.row I4.out.below HG.out).mono ?_
              rintro e w5 ⟨rfl, hb⟩
              have B5 := Aside0.mk hb
              clear hb
              have kq : ((q.length : Int) == (q.length : Int)) = true := by simp
              go_wp2_with fail
              go_ret
              exact ⟨rfl, B5.out⟩
            · have d1 : decide ((i : Int) < (l.length : Int)) = false := decide_eq_false (by omega)
              go_wp2_with fail
              refine (Table.awake_calls _ (Slot.Cells.below GL.out HI.out.below hz)).mono ?_
              rintro e w4 ⟨rfl, hb⟩
              have I4 := Aside0.mk (HI.out.next hb)
              clear hb
              go_wp2_with fail
              refine (left_at W t f fl fh j A c [t, f, fl, fh, ob] q out (ret : Int) _ (by intro x hx; simp at hx ⊢; omega) I4.out.tb I4.out.row I4.out.below HG.out).mono ?_
              rintro e w5 ⟨rfl, hb⟩
              have B5 := Aside0.mk hb
              clear hb
              have kq : ((q.length : Int) == (q.length : Int)) = true := by simp
              go_wp2_with fail
              go_ret
              exact ⟨rfl, B5.out⟩
theorem walk (a0 : Int) (A1 : Option Addr) (c1 : Nat) (l1 : List (Pts [.int .i64, .int .i64])) (W : World) (w0 : (Lit.int .i64 a0).wf = true) (ro1 : RowsOf W [.int .i64, .int .i64] A1 l1) (w1 : ∀ x ∈ l1, wfs [.int .i64, .int .i64] x) (lc1 : l1.length ≤ c1) (cm1 : c1 ≤ maxLen) (nn1 : A1 = none → c1 = 0) (gl : LaidSlot.Cells W) :
    Calls Tryd.prog 11 #[.int .i64 a0, .slice A1 l1.length c1] W fun e W' => e = .returned (.bool true) ∧ Below W.heap.size W W' := by
  refine core a0 (a0 % 8 + 1).toNat A1 l1 c1 W gl (by rw [i64_and7]; omega) (by omega) (by unfold maxLen at cm1; omega) (fun i hi => ?_)
  obtain ⟨ad, hA, h⟩ := ro1 i hi
  have h0 := h 0 (by decide)
  have h1 := h 1 (by decide)
  refine ⟨ad, hA, h0, ?_⟩
  have e : (⟨(ad.add (i * 2)).block, (ad.add (i * 2)).off + 1, none⟩ : Addr) = ad.add (i * 2 + 1) := by
    rw [← Open.add_add ad (i * 2) 1]
    unfold Addr.add
    rw [if_neg (show ¬ (1 : Nat) = 0 by omega)]
  rw [e]
  exact h1
end Go.Proofs.YthonkcldddfpnaaDoor.walkTablePlays
