/- Who is told of an alarm is told what it is for: the walk of AlarmTells. -/
import Derived.Test.YthonkcldddfpnaaAlarm
import Derived.Test.YthonkcldddfpnaaAlarmQ
import Derived.Test.YthonkcldddfpnaaNear
import Derived.Test.YthonkcldddfpnaaRegInv
import Derived.Laws.CopyOwn
import Derived.Laws.Tables
import Derived.Deep.CutRange
namespace Go.Proofs.Ythonkcldddfpnaa.walkAlarmTells
open Go.RowKit Go.Proofs.Ythonkcldddfpnaa.PAlarmAsks Go.Proofs.YthonkcldddfpnaaW.PrintWords Go.Proofs.YthonkcldddfpnaaW.PrintLast Go.Proofs.YthonkcldddfpnaaW.PrintMore Go.Proofs.Ythonkcldddfpnaa.Aid Go.Proofs.Ythonkcldddfpnaa.Quiet Go.Proofs.Ythonkcldddfpnaa.Blk Go.Proofs.Ythonkcldddfpnaa.State Go.Proofs.Ythonkcldddfpnaa.Vals Go.Proofs.Ythonkcldddfpnaa.AlarmF Go.Proofs.Ythonkcldddfpnaa.Alarm Go.Proofs.Ythonkcldddfpnaa.Near
set_option linter.unusedVariables false
attribute [local go_sem] max2_int min2_int max_two min_two
attribute [local go_sem high] eqA24
theorem eqA27 (d : Nat) (w : World) (x0 y0 : Int) (x1 y1 : Int) (x2 y2 : Int) (x3 y3 : Int) (x4 y4 : Int) (x5 y5 : Int) (x6 y6 : Int) (x7 y7 : Bool) (x8 y8 : Bool) (x9 y9 : Int) (x10 y10 : Int) :
    (Op.equalIn (d + 2) 27 (.agg #[.int .i64 x0, .int .i64 x1, .int .i64 x2, .int .i64 x3, .int .i64 x4, .int .u32 x5, .int .i64 x6, .bool x7, .bool x8, .int .i64 x9, .int .u32 x10]) (.agg #[.int .i64 y0, .int .i64 y1, .int .i64 y2, .int .i64 y3, .int .i64 y4, .int .u32 y5, .int .i64 y6, .bool y7, .bool y8, .int .i64 y9, .int .u32 y10])).run Try.prog w = .ok (x0 == y0 && (x1 == y1 && (x2 == y2 && (x3 == y3 && (x4 == y4 && (x5 == y5 && (x6 == y6 && (x7 == y7 && (x8 == y8 && (x9 == y9 && (x10 == y10))))))))))) w := by
  refine eqA_of Try.underlying27 (by kernel_rfl) ?_
  refine eqf_cons (by rfl) (by go_simp; rfl) (by go_simp; rfl) (by go_simp) ?_
  refine eqf_cons (by rfl) (by go_simp; rfl) (by go_simp; rfl) (by go_simp) ?_
  refine eqf_cons (by rfl) (by go_simp; rfl) (by go_simp; rfl) (by go_simp) ?_
  refine eqf_cons (by rfl) (by go_simp; rfl) (by go_simp; rfl) (by go_simp) ?_
  refine eqf_cons (by rfl) (by go_simp; rfl) (by go_simp; rfl) (by go_simp) ?_
  refine eqf_cons (by rfl) (by go_simp; rfl) (by go_simp; rfl) (by go_simp) ?_
  refine eqf_cons (by rfl) (by go_simp; rfl) (by go_simp; rfl) (by go_simp) ?_
  refine eqf_cons (by rfl) (by go_simp; rfl) (by go_simp; rfl) (by go_simp) ?_
  refine eqf_cons (by rfl) (by go_simp; rfl) (by go_simp; rfl) (by go_simp) ?_
  refine eqf_cons (by rfl) (by go_simp; rfl) (by go_simp; rfl) (by go_simp) ?_
  exact eqf_last (by rfl) (by go_simp; rfl) (by go_simp; rfl) (by go_simp)
attribute [local go_sem high] eqA27

theorem topZ {w w' : World} {t : TypeId} {vs : List Value} (h : Below (w.alloc (.cells vs.toArray t)).heap.size (w.alloc (.cells vs.toArray t)) w') : HoldsV t w' w.heap.size vs :=
  (show HoldsV t (w.alloc (.cells vs.toArray t)) w.heap.size vs from heap_new _ _).below' h

/-- What holds in region 1, by what is done. -/
structure R1 (w0 : World) (YV F TL NR Z : List Value) (D : Nat → Bool) (u7 u8 u11 u12 u13 u14 : Value) (w : World) : Prop where
  below : Below w0.heap.size w0 w
  v11 : D 0 = true → u11 = .agg YV.toArray
  v12 : D 1 = true → u12 = .agg TL.toArray
  v13 : D 2 = true → u13 = .agg F.toArray
  v14 : D 3 = true → u14 = .agg NR.toArray
  p7 : D 4 = true → ∃ b, u7 = .pointer (some ⟨b, 0, none⟩) ∧ w0.heap.size ≤ b ∧ HoldsV 27 w b (if D 6 = true then TL else Z)
  p8 : D 5 = true → ∃ b, u8 = .pointer (some ⟨b, 0, none⟩) ∧ w0.heap.size ≤ b ∧ HoldsV 27 w b (if D 7 = true then NR else Z)
  ne : D 4 = true → D 5 = true → u7 ≠ u8
  d6 : D 6 = true → D 4 = true
  d7 : D 7 = true → D 5 = true
section
variable {w0 w w' : World} {YV F TL NR Z : List Value} {D : Nat → Bool} {u7 u8 u11 u12 u13 u14 : Value}
theorem R1.next (h : R1 w0 YV F TL NR Z D u7 u8 u11 u12 u13 u14 w) (hb : Below w.heap.size w w') : R1 w0 YV F TL NR Z D u7 u8 u11 u12 u13 u14 w' :=
  ⟨h.below.trans (hb.mono h.below.size), h.v11, h.v12, h.v13, h.v14, fun hd => let ⟨b, e, l, k⟩ := h.p7 hd; ⟨b, e, l, k.below' hb⟩, fun hd => let ⟨b, e, l, k⟩ := h.p8 hd; ⟨b, e, l, k.below' hb⟩, h.ne, h.d6, h.d7⟩
theorem R1.step0 (h : R1 w0 YV F TL NR Z D u7 u8 u11 u12 u13 u14 w) : R1 w0 YV F TL NR Z (RegInv.upd D 0) u7 u8 (.agg YV.toArray) u12 u13 u14 w :=
  ⟨h.below, fun _ => rfl, h.v12, h.v13, h.v14, h.p7, h.p8, h.ne, h.d6, h.d7⟩
theorem R1.step1 (h : R1 w0 YV F TL NR Z D u7 u8 u11 u12 u13 u14 w) : R1 w0 YV F TL NR Z (RegInv.upd D 1) u7 u8 u11 (.agg TL.toArray) u13 u14 w :=
  ⟨h.below, h.v11, fun _ => rfl, h.v13, h.v14, h.p7, h.p8, h.ne, h.d6, h.d7⟩
theorem R1.step2 (h : R1 w0 YV F TL NR Z D u7 u8 u11 u12 u13 u14 w) : R1 w0 YV F TL NR Z (RegInv.upd D 2) u7 u8 u11 u12 (.agg F.toArray) u14 w :=
  ⟨h.below, h.v11, h.v12, fun _ => rfl, h.v14, h.p7, h.p8, h.ne, h.d6, h.d7⟩
theorem R1.step3 (h : R1 w0 YV F TL NR Z D u7 u8 u11 u12 u13 u14 w) : R1 w0 YV F TL NR Z (RegInv.upd D 3) u7 u8 u11 u12 u13 (.agg NR.toArray) w :=
  ⟨h.below, h.v11, h.v12, h.v13, fun _ => rfl, h.p7, h.p8, h.ne, h.d6, h.d7⟩
theorem ptr_ne {a b : Nat} (h : a ≠ b) : (Value.pointer (some ⟨a, 0, none⟩)) ≠ Value.pointer (some ⟨b, 0, none⟩) := fun e => h (by injection e with e; injection e with e; injection e)
theorem R1.step4 (h : R1 w0 YV F TL NR Z D u7 u8 u11 u12 u13 u14 w) (h4 : D 4 = false) : R1 w0 YV F TL NR Z (RegInv.upd D 4) (.pointer (some ⟨w.heap.size, 0, none⟩)) u8 u11 u12 u13 u14 (w.alloc (.cells Z.toArray 27)) := by
  have hn := h.next (w' := w.alloc (.cells Z.toArray 27)) ((Below.refl _ _).alloc (Nat.le_refl _) _)
  refine ⟨hn.below, hn.v11, hn.v12, hn.v13, hn.v14, fun _ => ⟨_, rfl, h.below.size, ?_⟩, hn.p8, fun _ hd => ?_, fun _ => rfl, h.d7⟩
  · have h6 : D 6 = false := by cases hc : D 6 with | false => rfl | true => rw [h.d6 hc] at h4; cases h4
    rw [RegInv.upd_ne D (by decide), h6]
    exact heap_new _ _
  · obtain ⟨b, e, _, k⟩ := h.p8 hd
    rw [e]
    exact ptr_ne (Nat.ne_of_gt k.lt)
theorem R1.step5 (h : R1 w0 YV F TL NR Z D u7 u8 u11 u12 u13 u14 w) (h5 : D 5 = false) : R1 w0 YV F TL NR Z (RegInv.upd D 5) u7 (.pointer (some ⟨w.heap.size, 0, none⟩)) u11 u12 u13 u14 (w.alloc (.cells Z.toArray 27)) := by
  have hn := h.next (w' := w.alloc (.cells Z.toArray 27)) ((Below.refl _ _).alloc (Nat.le_refl _) _)
  refine ⟨hn.below, hn.v11, hn.v12, hn.v13, hn.v14, hn.p7, fun _ => ⟨_, rfl, h.below.size, ?_⟩, fun hd _ => ?_, h.d6, fun _ => rfl⟩
  · have h7 : D 7 = false := by cases hc : D 7 with | false => rfl | true => rw [h.d7 hc] at h5; cases h5
    rw [RegInv.upd_ne D (by decide), h7]
    exact heap_new _ _
  · obtain ⟨b, e, _, k⟩ := h.p7 hd
    rw [e]
    exact ptr_ne (Nat.ne_of_lt k.lt)
theorem setRow_holds {t : TypeId} {w : World} {g : Nat} {vs us : List Value} (h : HoldsV t w g vs) : HoldsV t (w.setRow g us.toArray) g us := setRow_heap w g _ _ t (0, 0) h
theorem setRow_far {t : TypeId} {w : World} {g k : Nat} {vs : List Value} (cs : Array Value) (h : HoldsV t w k vs) (hk : k ≠ g) : HoldsV t (w.setRow g cs) k vs := (setRow_other w g k cs hk).trans h
theorem R1.step6 (h : R1 w0 YV F TL NR Z D u7 u8 u11 u12 u13 u14 w) (h4 : D 4 = true) (b : Nat) (e7 : u7 = .pointer (some ⟨b, 0, none⟩)) (vs : List Value) (hb : w0.heap.size ≤ b) (hv : HoldsV 27 w b vs) : R1 w0 YV F TL NR Z (RegInv.upd D 6) u7 u8 u11 u12 u13 u14 (w.setRow b TL.toArray) := by
  refine ⟨below_setRow h.below hb _, h.v11, h.v12, h.v13, h.v14, fun _ => ⟨b, e7, hb, ?_⟩, fun hd => ?_, h.ne, fun _ => h4, h.d7⟩
  · rw [RegInv.upd_at, if_pos rfl]
    exact setRow_holds hv
  · obtain ⟨c, e, l, k⟩ := h.p8 hd
    exact ⟨c, e, l, setRow_far _ k (fun hc => h.ne h4 hd (by rw [e7, e, hc]))⟩
theorem R1.step7 (h : R1 w0 YV F TL NR Z D u7 u8 u11 u12 u13 u14 w) (h5 : D 5 = true) (b : Nat) (e8 : u8 = .pointer (some ⟨b, 0, none⟩)) (vs : List Value) (hb : w0.heap.size ≤ b) (hv : HoldsV 27 w b vs) : R1 w0 YV F TL NR Z (RegInv.upd D 7) u7 u8 u11 u12 u13 u14 (w.setRow b NR.toArray) := by
  refine ⟨below_setRow h.below hb _, h.v11, h.v12, h.v13, h.v14, fun hd => ?_, fun _ => ⟨b, e8, hb, ?_⟩, h.ne, h.d6, fun _ => h5⟩
  · obtain ⟨c, e, l, k⟩ := h.p7 hd
    exact ⟨c, e, l, setRow_far _ k (fun hc => h.ne hd h5 (by rw [e8, e, hc]))⟩
  · rw [RegInv.upd_at, if_pos rfl]
    exact setRow_holds hv
end
theorem q_of {P : Program} {f : FuncId} {args : Array Value} {v : Value} {w : World} {n : Nat} (h : Calls P f args (w.drewN n) fun e w' => e = .returned v ∧ ∃ m, w' = (w.drewN n).drewN m) :
    Calls P f args (w.drewN n) fun e w'' => e = .returned v ∧ ∃ m, w'' = w.drewN m := Calls.quiet_of h
set_option maxHeartbeats 8000000 in
set_option maxRecDepth 100000 in
theorem core (y0 y1 y2 y3 y4 : Int) (K C V S G ca T : Int) (b d : Bool) (Q u : Int) (z0 z1 z2 : Int) (W : World) (k1 c1 v1 s1 g1 t1 q1 A2 C2 : Int) (hA1 : ticks_After.f z0 z1 = some A2) (hA2 : cablewayref03_After.f z0 z1 = some A2) (hC1 : ticks_Clamp.f z2 = some C2) (hC2 : cablewayref03_Clamp.f z2 = some C2)
    (NEAR : ∀ w, Calls Try.prog 10 #[.agg #[.int .i64 K, .int .i64 C, .int .i64 V, .int .i64 S, .int .i64 G, .int .u32 ca, .int .i64 T, .bool b, .bool d, .int .i64 Q, .int .u32 u], .int .i64 0] w fun e w' => e = .returned (.agg #[.int .i64 k1, .int .i64 c1, .int .i64 v1, .int .i64 s1, .int .i64 g1, .int .u32 ca, .int .i64 t1, .bool b, .bool d, .int .i64 q1, .int .u32 u]) ∧ Below w.heap.size w w') :
    Calls Try.prog 4 #[.agg #[.int .i64 y0, .int .i64 y1, .int .i64 y2, .int .i64 y3, .int .i64 y4], .agg #[.int .i64 K, .int .i64 C, .int .i64 V, .int .i64 S, .int .i64 G, .int .u32 ca, .int .i64 T, .bool b, .bool d, .int .i64 Q, .int .u32 u], .agg #[.int .i64 z0, .int .i64 z1, .int .i64 z2]] W fun e W' => e = .returned (.bool true) ∧ Below W.heap.size W W' := by
  have hu24 := Try.underlying24
  have hu27 := Try.underlying27
  have KT := Aside0.mk (fun w => alarm_Tell.calls y0 y1 y2 y3 y4 _ _ _ _ _ _ _ _ _ _ _ w (tell_f y0 y1 y2 y3 y4))
  have KN := Aside0.mk NEAR
  have KS := Aside0.mk (fun w => alarm_Soon.calls z0 z1 z2 k1 c1 v1 s1 g1 ca t1 b d q1 u 3 (mn A2 C2) c1 s1 g1 3 w (by unfold alarm_Soon.f; rw [hA1, hC1]; rfl))
  have KA := Aside0.mk (fun w => (cablewayref03_After.calls z0 z1 A2 w hA2).mono (R' := fun r w' => r = .returned (.int .i64 A2) ∧ ∃ m, w' = w.drewN m) fun _ _ ⟨a, b⟩ => ⟨a, b.out⟩)
  have KC := Aside0.mk (fun w => (cablewayref03_Clamp.calls z2 C2 w hC2).mono (R' := fun r w' => r = .returned (.int .i64 C2) ∧ ∃ m, w' = w.drewN m) fun _ _ ⟨a, b⟩ => ⟨a, b.out⟩)
  obtain ⟨mv, hmv⟩ : ∃ m, mn A2 C2 = m := ⟨_, rfl⟩
  rw [hmv] at KS
  have hmv2 : (if C2 < A2 then C2 else A2) = mv := hmv
  have HMV := Aside0.mk hmv2
  clear NEAR hA1 hA2 hC1 hC2 hmv hmv2
  go_enter Try.func4, Try.ntmps4
  go_upto_region 1 with fail
  go_cut [7, 8] from 11 to 14 (fun p7 p8 wx => ∃ b7 b8, p7 = .pointer (some ⟨b7, 0, none⟩) ∧ p8 = .pointer (some ⟨b8, 0, none⟩) ∧ HoldsV 27 wx b7 [.int .i64 10, .int .i64 y1, .int .i64 0, .int .i64 y2, .int .i64 y3, .int .u32 0, .int .i64 y4, .bool false, .bool false, .int .i64 0, .int .u32 0] ∧ HoldsV 27 wx b8 [.int .i64 k1, .int .i64 c1, .int .i64 v1, .int .i64 s1, .int .i64 g1, .int .u32 ca, .int .i64 t1, .bool b, .bool d, .int .i64 q1, .int .u32 u] ∧ Below (W.heap.size + 3) (((W.alloc (.cells #[.int .i64 y0, .int .i64 y1, .int .i64 y2, .int .i64 y3, .int .i64 y4] 24)).alloc (.cells #[.int .i64 K, .int .i64 C, .int .i64 V, .int .i64 S, .int .i64 G, .int .u32 ca, .int .i64 T, .bool b, .bool d, .int .i64 Q, .int .u32 u] 27)).alloc (.cells #[.int .i64 z0, .int .i64 z1, .int .i64 z2] 35)) wx)
  case first =>
    obtain ⟨w0, hw0⟩ : ∃ w0, (((W.alloc (.cells #[.int .i64 y0, .int .i64 y1, .int .i64 y2, .int .i64 y3, .int .i64 y4] 24)).alloc (.cells #[.int .i64 K, .int .i64 C, .int .i64 V, .int .i64 S, .int .i64 G, .int .u32 ca, .int .i64 T, .bool b, .bool d, .int .i64 Q, .int .u32 u] 27)).alloc (.cells #[.int .i64 z0, .int .i64 z1, .int .i64 z2] 35)) = w0 := ⟨_, rfl⟩
    have H3 : HoldsV 24 w0 W.heap.size [.int .i64 y0, .int .i64 y1, .int .i64 y2, .int .i64 y3, .int .i64 y4] := by rw [← hw0]; exact heap_old (heap_old (heap_new _ _))
    have H4 : HoldsV 27 w0 (W.heap.size + 1) [.int .i64 K, .int .i64 C, .int .i64 V, .int .i64 S, .int .i64 G, .int .u32 ca, .int .i64 T, .bool b, .bool d, .int .i64 Q, .int .u32 u] := by rw [← hw0]; exact heap_old (heap_new' (w := W.alloc _) _ (Array.size_push ..))
    have hs0 : w0.heap.size = W.heap.size + 3 := by rw [← hw0]; simp only [World.alloc, Array.size_push]
    rw [hw0]
    have HW0 := Aside0.mk hw0
    clear hw0
    refine RegInv.wp_region_steps (I := fun D a w => ∃ u7 u8 u11 u12 u13 u14, a = ⟨(.agg #[.int .i64 y0, .int .i64 y1, .int .i64 y2, .int .i64 y3, .int .i64 y4] :: .agg #[.int .i64 K, .int .i64 C, .int .i64 V, .int .i64 S, .int .i64 G, .int .u32 ca, .int .i64 T, .bool b, .bool d, .int .i64 Q, .int .u32 u] :: .agg #[.int .i64 z0, .int .i64 z1, .int .i64 z2] :: .pointer (some ⟨W.heap.size, 0, none⟩) :: .pointer (some ⟨W.heap.size + 1, 0, none⟩) :: .pointer (some ⟨W.heap.size + 1 + 1, 0, none⟩) :: .bool false :: u7 :: u8 :: undef :: undef :: u11 :: u12 :: u13 :: u14 :: undef :: undef :: undef :: undef :: undef :: undef :: undef :: undef :: undef :: undef :: undef :: undef :: undef :: undef :: undef :: undef :: undef :: undef :: undef :: undef :: undef :: undef :: undef :: undef :: undef :: undef :: undef :: undef :: undef :: undef :: undef :: undef :: undef :: undef :: undef :: undef :: undef :: undef :: undef :: undef :: undef :: undef :: undef :: []).toArray, []⟩ ∧ R1 w0 [.int .i64 y0, .int .i64 y1, .int .i64 y2, .int .i64 y3, .int .i64 y4] [.int .i64 K, .int .i64 C, .int .i64 V, .int .i64 S, .int .i64 G, .int .u32 ca, .int .i64 T, .bool b, .bool d, .int .i64 Q, .int .u32 u] [.int .i64 10, .int .i64 y1, .int .i64 0, .int .i64 y2, .int .i64 y3, .int .u32 0, .int .i64 y4, .bool false, .bool false, .int .i64 0, .int .u32 0] [.int .i64 k1, .int .i64 c1, .int .i64 v1, .int .i64 s1, .int .i64 g1, .int .u32 ca, .int .i64 t1, .bool b, .bool d, .int .i64 q1, .int .u32 u] [.int .i64 0, .int .i64 0, .int .i64 0, .int .i64 0, .int .i64 0, .int .u32 0, .int .i64 0, .bool false, .bool false, .int .i64 0, .int .u32 0] D u7 u8 u11 u12 u13 u14 w) (by kernel_rfl) (by kernel_rfl) ?_ ?_ ?_
    · exact ⟨_, _, _, _, _, _, rfl, ⟨(Below.refl _ _).drew, fun h => (by cases h), fun h => (by cases h), fun h => (by cases h), fun h => (by cases h), fun h => (by cases h), fun h => (by cases h), fun h => (by cases h), fun h => (by cases h), fun h => (by cases h)⟩⟩
    · rintro D a w ⟨u7, u8, u11, u12, u13, u14, rfl, hR⟩ hall
      obtain rfl := hR.v11 (hall 0 (by decide))
      obtain rfl := hR.v12 (hall 1 (by decide))
      obtain rfl := hR.v13 (hall 2 (by decide))
      obtain rfl := hR.v14 (hall 3 (by decide))
      obtain ⟨b7, rfl, hb7, hv7⟩ := hR.p7 (hall 4 (by decide))
      obtain ⟨b8, rfl, hb8, hv8⟩ := hR.p8 (hall 5 (by decide))
      rw [if_pos (hall 6 (by decide))] at hv7
      rw [if_pos (hall 7 (by decide))] at hv8
      go_wp2_with fail
      go_meet
      exact ⟨b7, b8, rfl, rfl, hv7, hv8, by rw [HW0.out, ← hs0]; exact hR.below⟩
    · refine RegInv.Steps.cons (fun D a w hI hD hdep K hK => ?_) ?_
      · obtain ⟨u7, u8, u11, u12, u13, u14, rfl, hR⟩ := hI
        rw [if_pos (by rfl)]
        refine wp_load_row 24 (.tmp 3) rfl W.heap.size rfl 24 _ (0, 0) _ (H3.below hR.below H3.lt) hu24 rfl (by kernel_rfl) ?_
        exact hK.out _ _ ⟨_, _, _, _, _, _, rfl, hR.step0⟩
      refine RegInv.Steps.cons (fun D a w hI hD hdep K hK => ?_) ?_
      · obtain ⟨u7, u8, u11, u12, u13, u14, rfl, hR⟩ := hI
        have d0 : D 0 = true := hdep ⟨0, .data⟩ (by simp) rfl
        obtain rfl := hR.v11 d0
        rw [if_pos (by rfl)]
        go_simp
        refine (KT.out _).mono ?_
        rintro e w9 ⟨rfl, hb9⟩
        exact hK.out _ _ ⟨_, _, _, _, _, _, rfl, (hR.next hb9).step1⟩
      refine RegInv.Steps.cons (fun D a w hI hD hdep K hK => ?_) ?_
      · obtain ⟨u7, u8, u11, u12, u13, u14, rfl, hR⟩ := hI
        rw [if_pos (by rfl)]
        refine wp_load_row 27 (.tmp 4) rfl (W.heap.size + 1) rfl 27 _ (0, 0) _ (H4.below hR.below H4.lt) hu27 rfl (by kernel_rfl) ?_
        exact hK.out _ _ ⟨_, _, _, _, _, _, rfl, hR.step2⟩
      refine RegInv.Steps.cons (fun D a w hI hD hdep K hK => ?_) ?_
      · obtain ⟨u7, u8, u11, u12, u13, u14, rfl, hR⟩ := hI
        have d0 : D 2 = true := hdep ⟨2, .data⟩ (by simp) rfl
        obtain rfl := hR.v13 d0
        rw [if_pos (by rfl)]
        go_simp
        refine (KN.out _).mono ?_
        rintro e w9 ⟨rfl, hb9⟩
        exact hK.out _ _ ⟨_, _, _, _, _, _, rfl, (hR.next hb9).step3⟩
      refine RegInv.Steps.cons (fun D a w hI hD hdep K hK => ?_) ?_
      · obtain ⟨u7, u8, u11, u12, u13, u14, rfl, hR⟩ := hI
        rw [if_pos (by rfl)]
        go_simp
        exact hK.out _ _ ⟨_, _, _, _, _, _, rfl, hR.step4 hD⟩
      refine RegInv.Steps.cons (fun D a w hI hD hdep K hK => ?_) ?_
      · obtain ⟨u7, u8, u11, u12, u13, u14, rfl, hR⟩ := hI
        rw [if_pos (by rfl)]
        go_simp
        exact hK.out _ _ ⟨_, _, _, _, _, _, rfl, hR.step5 hD⟩
      refine RegInv.Steps.cons (fun D a w hI hD hdep K hK => ?_) ?_
      · obtain ⟨u7, u8, u11, u12, u13, u14, rfl, hR⟩ := hI
        have d4 : D 4 = true := hdep ⟨4, .data⟩ (by simp) rfl
        have d1 : D 1 = true := hdep ⟨1, .data⟩ (by simp) rfl
        obtain rfl := hR.v12 d1
        obtain ⟨p, rfl, hp, hv⟩ := hR.p7 d4
        rw [if_pos (by rfl)]
        refine wp_store_row 27 (.tmp 7) (.tmp 12) rfl p _ rfl rfl 27 _ hv (by kernel_rfl) (by split <;> rfl) (by kernel_rfl) ?_
        exact hK.out _ _ ⟨_, _, _, _, _, _, rfl, hR.step6 d4 p rfl _ hp hv⟩
      refine RegInv.Steps.cons (fun D a w hI hD hdep K hK => ?_) ?_
      · obtain ⟨u7, u8, u11, u12, u13, u14, rfl, hR⟩ := hI
        have d4 : D 5 = true := hdep ⟨5, .data⟩ (by simp) rfl
        have d1 : D 3 = true := hdep ⟨3, .data⟩ (by simp) rfl
        obtain rfl := hR.v14 d1
        obtain ⟨p, rfl, hp, hv⟩ := hR.p8 d4
        rw [if_pos (by rfl)]
        refine wp_store_row 27 (.tmp 8) (.tmp 14) rfl p _ rfl rfl 27 _ hv (by kernel_rfl) (by split <;> rfl) (by kernel_rfl) ?_
        exact hK.out _ _ ⟨_, _, _, _, _, _, rfl, hR.step7 d4 p rfl _ hp hv⟩
      exact RegInv.Steps.nil
  case rest =>
    obtain ⟨b7, b8, rfl, rfl, hv7, hv8, hb⟩ := hcut
    obtain ⟨w0, hw0⟩ : ∃ w0, (((W.alloc (.cells #[.int .i64 y0, .int .i64 y1, .int .i64 y2, .int .i64 y3, .int .i64 y4] 24)).alloc (.cells #[.int .i64 K, .int .i64 C, .int .i64 V, .int .i64 S, .int .i64 G, .int .u32 ca, .int .i64 T, .bool b, .bool d, .int .i64 Q, .int .u32 u] 27)).alloc (.cells #[.int .i64 z0, .int .i64 z1, .int .i64 z2] 35)) = w0 := ⟨_, rfl⟩
    have H3 : HoldsV 24 w0 W.heap.size [.int .i64 y0, .int .i64 y1, .int .i64 y2, .int .i64 y3, .int .i64 y4] := by rw [← hw0]; exact heap_old (heap_old (heap_new _ _))
    have H5 : HoldsV 35 w0 (W.heap.size + 1 + 1) [.int .i64 z0, .int .i64 z1, .int .i64 z2] := by rw [← hw0]; exact heap_new' (w := (W.alloc _).alloc _) _ (by simp only [World.alloc, Array.size_push])
    have hB0 : Below W.heap.size W w0 := by
      rw [← hw0]
      exact (((Below.refl _ _).alloc (Nat.le_refl _) _).alloc (by simp only [World.alloc, Array.size_push]; omega) _).alloc (by simp only [World.alloc, Array.size_push]; omega) _
    rw [hw0] at hb
    clear hw0
    have HB := Aside0.mk (hB0.trans (hb.mono (by omega)))
    have HY := Aside0.mk (H3.below hb (by omega))
    have HZ := Aside0.mk (H5.below hb (by omega))
    have H7 := Aside0.mk hv7
    have H8 := Aside0.mk hv8
    clear hb hB0 H3 H5 hv7 hv8
    have cz0 := HZ.out.cell 0; have cz1 := HZ.out.cell 1; have cz2 := HZ.out.cell 2; simp only [List.getElem?_cons_zero, List.getElem?_cons_succ] at cz0 cz1 cz2
    have cn0 := H8.out.cell 0; have cn1 := H8.out.cell 1; have cn2 := H8.out.cell 2; have cn3 := H8.out.cell 3; have cn4 := H8.out.cell 4; have cn5 := H8.out.cell 5; have cn6 := H8.out.cell 6; have cn7 := H8.out.cell 7; have cn8 := H8.out.cell 8; have cn9 := H8.out.cell 9; have cn10 := H8.out.cell 10; simp only [List.getElem?_cons_zero, List.getElem?_cons_succ] at cn0 cn1 cn2 cn3 cn4 cn5 cn6 cn7 cn8 cn9 cn10
    go_upto_region 4 with (first | (go_at_call 11; refine (KS.out _).mono ?_; rintro e w3 ⟨rfl, hb3⟩; have HB3 := Aside0.mk hb3; clear hb3))
    obtain ⟨b9, hb9⟩ : ∃ b9, w3.heap.size = b9 := ⟨_, rfl⟩
    have hnew : Below w3.heap.size w3 (w3.alloc (.cells #[.int .i64 mv, .int .i64 c1, .int .i64 s1, .int .i64 g1, .int .i64 3] 24)) := (Below.refl _ _).alloc (Nat.le_refl _) _
    have hall : Below wc.heap.size wc (w3.alloc (.cells #[.int .i64 mv, .int .i64 c1, .int .i64 s1, .int .i64 g1, .int .i64 3] 24)) := HB3.out.trans (hnew.mono HB3.out.size)
    have h9 : HoldsV 24 (w3.alloc (.cells #[.int .i64 mv, .int .i64 c1, .int .i64 s1, .int .i64 g1, .int .i64 3] 24)) b9 [.int .i64 mv, .int .i64 c1, .int .i64 s1, .int .i64 g1, .int .i64 3] := by rw [← hb9]; exact heap_new _ _
    rw [hb9]
    obtain ⟨w4, hw4⟩ : ∃ w4, w3.alloc (.cells #[.int .i64 mv, .int .i64 c1, .int .i64 s1, .int .i64 g1, .int .i64 3] 24) = w4 := ⟨_, rfl⟩
    rw [hw4] at hall h9 ⊢
    have GB := Aside0.mk (HB.out.trans (hall.mono HB.out.size))
    have GY := Aside0.mk (HY.out.below' hall)
    have G7 := Aside0.mk (H7.out.below' hall)
    have G8 := Aside0.mk (H8.out.below' hall)
    have G9 := Aside0.mk h9
    have gz := HZ.out.below' hall
    clear hnew hall h9 hw4 hb9 HB HY HZ H7 H8 HB3 cz0 cz1 cz2 cn0 cn1 cn2 cn3 cn4 cn5 cn6 cn7 cn8 cn9 cn10
    have gz0 := gz.cell 0; have gz1 := gz.cell 1; have gz2 := gz.cell 2; simp only [List.getElem?_cons_zero, List.getElem?_cons_succ] at gz0 gz1 gz2
    have hmv := HMV.out
    go_quiet (first | (go_at_call 12; exact q_of (KA.out _)) | (go_at_call 13; exact q_of (KC.out _)))
    clear hmv
    go_wp2_with fail
    refine (awake_calls _).mono ?_
    rintro e w7 ⟨rfl, hb7⟩
    have hb7' : Below w4.heap.size w4 w7 := (below_drewN (Below.refl _ _) _).trans hb7
    have FB := Aside0.mk (GB.out.trans (hb7'.mono GB.out.size))
    have FY := GY.out.below' hb7'
    have F7 := G7.out.below' hb7'
    have F8 := G8.out.below' hb7'
    have F9 := G9.out.below' hb7'
    clear hb7 hb7'
    have ey1 : (y1 == y1) = true := beq_self_eq_true _; have ey2 : (y2 == y2) = true := beq_self_eq_true _; have ey3 : (y3 == y3) = true := beq_self_eq_true _; have ey4 : (y4 == y4) = true := beq_self_eq_true _; have emv : (mv == mv) = true := beq_self_eq_true _; have ec1 : (c1 == c1) = true := beq_self_eq_true _; have es1 : (s1 == s1) = true := beq_self_eq_true _; have eg1 : (g1 == g1) = true := beq_self_eq_true _
    have fy0 := FY.cell 0; have fy1 := FY.cell 1; have fy2 := FY.cell 2; have fy3 := FY.cell 3; have fy4 := FY.cell 4; simp only [List.getElem?_cons_zero, List.getElem?_cons_succ] at fy0 fy1 fy2 fy3 fy4
    have fa0 := F7.cell 0; have fa1 := F7.cell 1; have fa2 := F7.cell 2; have fa3 := F7.cell 3; have fa4 := F7.cell 4; have fa5 := F7.cell 5; have fa6 := F7.cell 6; have fa7 := F7.cell 7; have fa8 := F7.cell 8; have fa9 := F7.cell 9; have fa10 := F7.cell 10; simp only [List.getElem?_cons_zero, List.getElem?_cons_succ] at fa0 fa1 fa2 fa3 fa4 fa5 fa6 fa7 fa8 fa9 fa10
    have fb0 := F8.cell 0; have fb1 := F8.cell 1; have fb2 := F8.cell 2; have fb3 := F8.cell 3; have fb4 := F8.cell 4; have fb5 := F8.cell 5; have fb6 := F8.cell 6; have fb7 := F8.cell 7; have fb8 := F8.cell 8; have fb9 := F8.cell 9; have fb10 := F8.cell 10; simp only [List.getElem?_cons_zero, List.getElem?_cons_succ] at fb0 fb1 fb2 fb3 fb4 fb5 fb6 fb7 fb8 fb9 fb10
    have fc0 := F9.cell 0; have fc1 := F9.cell 1; have fc2 := F9.cell 2; have fc3 := F9.cell 3; have fc4 := F9.cell 4; simp only [List.getElem?_cons_zero, List.getElem?_cons_succ] at fc0 fc1 fc2 fc3 fc4
    clear FY F7 F8 F9
    go_wp2_with fail
    go_ret
    first | exact ⟨rfl, FB.out⟩ | exact ⟨rfl, below_drewN FB.out _⟩
theorem soon_eq (z0 z1 z2 : Int) : ∃ A2 C2, ticks_After.f z0 z1 = some A2 ∧ cablewayref03_After.f z0 z1 = some A2 ∧ ticks_Clamp.f z2 = some C2 ∧ cablewayref03_Clamp.f z2 = some C2 := by
  have cl : ∀ z, cablewayref03_Clamp.f z = ticks_Clamp.f z := fun z => by
    unfold cablewayref03_Clamp.f ticks_Clamp.f mn mx
    by_cases h1 : z < 0
    · rw [if_pos h1, if_pos h1, if_neg (by omega)]
    · rw [if_neg h1, if_neg h1]
      by_cases h2 : z > 1099511627776
      · rw [if_pos h2, if_pos h2]
      · rw [if_neg h2, if_neg h2]
  have bd : ∀ z, ∃ c, ticks_Clamp.f z = some c ∧ 0 ≤ c ∧ c ≤ 1099511627776 := fun z => ⟨_, rfl, by unfold mn mx; split <;> split <;> omega⟩
  obtain ⟨p, hp, hp0, hp1⟩ := bd z0
  obtain ⟨q, hq, hq0, hq1⟩ := bd z1
  obtain ⟨r, hr, hr0, hr1⟩ := bd z2
  refine ⟨if q ≥ 1099511627776 - p then 1099511627776 else p + q, r, ?_, ?_, hr, by rw [cl]; exact hr⟩
  · unfold ticks_After.f
    rw [hp, hq]
    simp only [Option.bind_some]
    rw [w64 _ (by omega) (by omega), w64 _ (by omega) (by omega)]
    split <;> rfl
  · unfold cablewayref03_After.f
    rw [cl, cl, hp, hq]
    simp only [Option.bind_some]
    rw [w64 _ (by omega) (by omega)]
    by_cases h : q ≥ 1099511627776 - p
    · rw [if_pos h]
      by_cases h2 : p + q > 1099511627776
      · rw [if_pos h2]
      · rw [if_neg h2]; congr 1; omega
    · rw [if_neg h, if_neg (by omega)]
theorem walk (a0_0 : Int) (a0_1 : Int) (a0_2 : Int) (a0_3 : Int) (a0_4 : Int) (a1_0 : Int) (a1_1 : Int) (a1_2 : Int) (a1_3 : Int) (a1_4 : Int) (a1_5 : Int) (a1_6 : Int) (a1_7 : Bool) (a1_8 : Bool) (a1_9 : Int) (a1_10 : Int) (a2_0 : Int) (a2_1 : Int) (a2_2 : Int) (W : World) (w0_0 : (Lit.int .i64 a0_0).wf = true) (w0_1 : (Lit.int .i64 a0_1).wf = true) (w0_2 : (Lit.int .i64 a0_2).wf = true) (w0_3 : (Lit.int .i64 a0_3).wf = true) (w0_4 : (Lit.int .i64 a0_4).wf = true) (w1_0 : (Lit.int .i64 a1_0).wf = true) (w1_1 : (Lit.int .i64 a1_1).wf = true) (w1_2 : (Lit.int .i64 a1_2).wf = true) (w1_3 : (Lit.int .i64 a1_3).wf = true) (w1_4 : (Lit.int .i64 a1_4).wf = true) (w1_5 : (Lit.int .u32 a1_5).wf = true) (w1_6 : (Lit.int .i64 a1_6).wf = true) (w1_9 : (Lit.int .i64 a1_9).wf = true) (w1_10 : (Lit.int .u32 a1_10).wf = true) (w2_0 : (Lit.int .i64 a2_0).wf = true) (w2_1 : (Lit.int .i64 a2_1).wf = true) (w2_2 : (Lit.int .i64 a2_2).wf = true) :
    Calls Try.prog 4 #[.agg #[.int .i64 a0_0, .int .i64 a0_1, .int .i64 a0_2, .int .i64 a0_3, .int .i64 a0_4], .agg #[.int .i64 a1_0, .int .i64 a1_1, .int .i64 a1_2, .int .i64 a1_3, .int .i64 a1_4, .int .u32 a1_5, .int .i64 a1_6, .bool a1_7, .bool a1_8, .int .i64 a1_9, .int .u32 a1_10], .agg #[.int .i64 a2_0, .int .i64 a2_1, .int .i64 a2_2]] W fun e W' => e = .returned (.bool true) ∧ Below W.heap.size W W' := by
  have d4 : ∀ x : Int, ∃ n : Nat, x % 4 = (n : Int) := fun x => ⟨(x % 4).toNat, by omega⟩
  obtain ⟨kn, hkn⟩ : ∃ n : Nat, a1_0 % 256 = (n : Int) := ⟨(a1_0 % 256).toNat, by omega⟩
  obtain ⟨c1, hc1⟩ := d4 a1_1
  obtain ⟨v1, hv1⟩ := d4 a1_2
  obtain ⟨s1, hs1⟩ : ∃ n : Nat, a1_3 % 16 = (n : Int) := ⟨(a1_3 % 16).toNat, by omega⟩
  obtain ⟨g1, hg1⟩ : ∃ n : Nat, a1_4 % 16777216 = (n : Int) := ⟨(a1_4 % 16777216).toNat, by omega⟩
  obtain ⟨t1, ht1⟩ : ∃ n : Nat, a1_6 % 16 = (n : Int) := ⟨(a1_6 % 16).toNat, by omega⟩
  obtain ⟨q1, hq1⟩ : ∃ n : Nat, a1_9 % 65536 = (n : Int) := ⟨(a1_9 % 65536).toNat, by omega⟩
  obtain ⟨A2, C2, h1, h2, h3, h4⟩ := soon_eq a2_0 a2_1 a2_2
  refine core a0_0 a0_1 a0_2 a0_3 a0_4 a1_0 a1_1 a1_2 a1_3 a1_4 a1_5 a1_6 a1_7 a1_8 a1_9 a1_10 a2_0 a2_1 a2_2 W ((kn % 10 : Nat) + 1) c1 v1 s1 g1 t1 q1 A2 C2 h1 h2 h3 h4 (fun w => ?_)
  refine near_core a1_0 a1_1 a1_2 a1_3 a1_4 a1_5 a1_6 a1_7 a1_8 a1_9 a1_10 0 w 0 kn (kn % 10) c1 v1 s1 g1 t1 q1 _ _ _ _ _ _ _ (by decide) (by rw [i64_and255]; exact hkn) ?_ (by omega)
    (by rw [i64_and3]; exact hc1) (by rw [i64_and3]; exact hv1) (by rw [i64_and15]; exact hs1) (by rw [i64_and24]; exact hg1) (by rw [i64_and15]; exact ht1) (by rw [i64_and65535]; exact hq1) ⟨?_, ?_, ?_, ?_, ?_, ?_, ?_⟩
  · rw [Int.tmod_eq_emod_of_nonneg (by omega)]; omega
  all_goals rfl
end Go.Proofs.Ythonkcldddfpnaa.walkAlarmTells
