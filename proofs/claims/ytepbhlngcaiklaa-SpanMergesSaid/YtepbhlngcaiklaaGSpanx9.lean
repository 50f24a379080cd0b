/- WRITTEN BY wip/hyb.py, a program of this workplace (out of the kit's printer and this workplace's own contracts). -/
import Derived.Test.YtepbhlngcaiklaaGSpanx0
import Derived.Test.YtepbhlngcaiklaaGSpanx4
import Derived.Test.YtepbhlngcaiklaaGSpanx5
import Derived.Test.YtepbhlngcaiklaaGSpanx6
import Derived.Test.YtepbhlngcaiklaaGSpanx7
import Derived.Test.YtepbhlngcaiklaaGSpanx8
namespace Go.Proofs.Ytepbhlngcaiklaa.HSpan
open Go.RowKit Go.Proofs.YtepbhlngcaiklaaW.PrintWords Go.Proofs.YtepbhlngcaiklaaW.PrintLast Go.Proofs.YtepbhlngcaiklaaW.PrintMore
attribute [local go_sem] max2_int min2_int max_two min_two max_three min_three max_four min_four   -- for this text's walks alone
set_option linter.unusedVariables false
set_option linter.unusedSimpArgs false

mutual
def caulklaw19_SpanMerges.j0 : Nat → List Int → List (S28) → Int → List (S43) → List ByteArray → ByteArray → Bool → Option (Bool)
 | 0, _, _, _, _, _, _, _ => none
 | k + 1, x0, x1, x2, x3, x4, x5, x32 => if x32 = true then ((caulklaw19_lives.f).bind fun t280 => (some t280)) else ((span_Blocks.f k x1).bind fun bt281 => ((caulkref19_Blocks.f k x1).bind fun bt285 => ((span_Join.f k x2 x3 x4).bind fun bt289 => ((caulkref19_Join.f k x2 x3 x4).bind fun bt291 => (if (x3.length : Int) > 0 then (caulklaw19_SpanMerges.j1 k x0 x3 x4 x5 bt281.1 bt281.2 bt285.1 bt285.2 bt289.1 bt289.2 bt291.1 bt291.2 (decide ((x4.length : Int) > 0))) else (caulklaw19_SpanMerges.j1 k x0 x3 x4 x5 bt281.1 bt281.2 bt285.1 bt285.2 bt289.1 bt289.2 bt291.1 bt291.2 false))))))
def caulklaw19_SpanMerges.j1 : Nat → List Int → List (S43) → List ByteArray → ByteArray → List Int → Int → List Int → Int → ByteArray → Int → ByteArray → Int → Bool → Option (Bool)
 | 0, _, _, _, _, _, _, _, _, _, _, _, _, _ => none
 | k + 1, x0, x3, x4, x5, x13, x14, x15, x16, x17, x18, x19, x20, x65 => if x65 = true then (if 0 < (x3.length : Int) then (if 0 < (x4.length : Int) then ((span_Over.f x5 ((rd_T43 x3 0).f0) ((rd_T43 x3 0).f1) ((rd_T43 x3 0).f2) (rdOf ByteArray.empty x4 0)).bind fun bt295 => ((caulkref19_Over.f x5 ((rd_T43 x3 0).f0) ((rd_T43 x3 0).f1) ((rd_T43 x3 0).f2) (rdOf ByteArray.empty x4 0)).bind fun bt299 => (if bt295.1.toList = bt299.1.toList then (if bt295.2 = bt299.2 then (caulklaw19_SpanMerges.j2 k x0 x13 x14 x15 x16 x17 x18 x19 x20) else (some false)) else (some false)))) else (none)) else (none)) else (caulklaw19_SpanMerges.j2 k x0 x13 x14 x15 x16 x17 x18 x19 x20)
def caulklaw19_SpanMerges.j2 : Nat → List Int → List Int → Int → List Int → Int → ByteArray → Int → ByteArray → Int → Option (Bool)
 | 0, _, _, _, _, _, _, _, _, _ => none
 | k + 1, x0, x13, x14, x15, x16, x17, x18, x19, x20 => (caulklaw19_lives.f).bind fun t301 => (if t301 = true then ((span_Merge.f k x0).bind fun t302 => ((caulkref19_Merge.f k x0).bind fun t305 => ((caulkref19_SameRanges.f k t302 t305).bind fun t308 => (if t308 = true then ((caulkref05_Same.f k x13 x15).bind fun t309 => (if t309 = true then (if x14 = x16 then (if x17.toList = x19.toList then (some (x18 == x20)) else (some false)) else (some false)) else (some false))) else (some false))))) else (some false))
end
def caulklaw19_SpanMerges.f (k : Nat) (l0 : List Int) (l1 : List (S28)) (a2 : Int) (l3 : List (S43)) (l4 : List ByteArray) (a5 : ByteArray) : Option (Bool) := (caulklaw19_small.f k l0).bind fun t279 => (if t279 = true then (caulklaw19_SpanMerges.j0 k l0 l1 a2 l3 l4 a5 (decide ((l4.length : Int) > 100))) else (caulklaw19_SpanMerges.j0 k l0 l1 a2 l3 l4 a5 true))
theorem caulklaw19_SpanMerges.mono_l : ∀ k, (∀ y0 y1 y2 y3 y4 y5 y6, LeO (caulklaw19_SpanMerges.j0 k y0 y1 y2 y3 y4 y5 y6) (caulklaw19_SpanMerges.j0 (k + 1) y0 y1 y2 y3 y4 y5 y6)) ∧ (∀ y0 y1 y2 y3 y4 y5 y6 y7 y8 y9 y10 y11 y12, LeO (caulklaw19_SpanMerges.j1 k y0 y1 y2 y3 y4 y5 y6 y7 y8 y9 y10 y11 y12) (caulklaw19_SpanMerges.j1 (k + 1) y0 y1 y2 y3 y4 y5 y6 y7 y8 y9 y10 y11 y12)) ∧ (∀ y0 y1 y2 y3 y4 y5 y6 y7 y8, LeO (caulklaw19_SpanMerges.j2 k y0 y1 y2 y3 y4 y5 y6 y7 y8) (caulklaw19_SpanMerges.j2 (k + 1) y0 y1 y2 y3 y4 y5 y6 y7 y8))
 | 0 => ⟨fun _ _ _ _ _ _ _ r h => by simp [caulklaw19_SpanMerges.j0] at h, fun _ _ _ _ _ _ _ _ _ _ _ _ _ r h => by simp [caulklaw19_SpanMerges.j1] at h, fun _ _ _ _ _ _ _ _ _ r h => by simp [caulklaw19_SpanMerges.j2] at h⟩
 | k + 1 => by
  obtain ⟨ih0, ih1, ih2⟩ := caulklaw19_SpanMerges.mono_l k
  refine ⟨?_, ?_, ?_⟩
  ·intro y0 y1 y2 y3 y4 y5 y6
   unfold caulklaw19_SpanMerges.j0
   repeat' first
   | (with_reducible exact ih0 _ _ _ _ _ _ _)
   | (with_reducible exact ih1 _ _ _ _ _ _ _ _ _ _ _ _ _)
   | (with_reducible exact ih2 _ _ _ _ _ _ _ _ _)
   | (with_reducible exact caulklaw19_small.mono _ _)
   | (with_reducible exact caulkref05_Same.mono _ _ _)
   | (with_reducible exact caulkref19_Blocks.mono _ _)
   | (with_reducible exact caulkref19_Join.mono _ _ _ _)
   | (with_reducible exact caulkref19_Merge.mono _ _)
   | (with_reducible exact caulkref19_SameRanges.mono _ _ _)
   | (with_reducible exact span_Blocks.mono _ _)
   | (with_reducible exact span_Join.mono _ _ _ _)
   | (with_reducible exact span_Merge.mono _ _)
   | (with_reducible exact LeO.refl _)
   | (with_reducible exact LeO.none _)
   | (with_reducible refine LeO.ite ?_ ?_)
   | (with_reducible refine LeO.bind ?_ (fun _ => ?_))
   | exact ih0 _ _ _ _ _ _ _
   | exact ih1 _ _ _ _ _ _ _ _ _ _ _ _ _
   | exact ih2 _ _ _ _ _ _ _ _ _
   | exact caulklaw19_small.mono _ _
   | exact caulkref05_Same.mono _ _ _
   | exact caulkref19_Blocks.mono _ _
   | exact caulkref19_Join.mono _ _ _ _
   | exact caulkref19_Merge.mono _ _
   | exact caulkref19_SameRanges.mono _ _ _
   | exact span_Blocks.mono _ _
   | exact span_Join.mono _ _ _ _
   | exact span_Merge.mono _ _
   | exact LeO.none _
   | refine LeO.ite ?_ ?_
   | refine LeO.bind ?_ (fun _ => ?_)
  ·intro y0 y1 y2 y3 y4 y5 y6 y7 y8 y9 y10 y11 y12
   unfold caulklaw19_SpanMerges.j1
   repeat' first
   | (with_reducible exact ih0 _ _ _ _ _ _ _)
   | (with_reducible exact ih1 _ _ _ _ _ _ _ _ _ _ _ _ _)
   | (with_reducible exact ih2 _ _ _ _ _ _ _ _ _)
   | (with_reducible exact caulklaw19_small.mono _ _)
   | (with_reducible exact caulkref05_Same.mono _ _ _)
   | (with_reducible exact caulkref19_Blocks.mono _ _)
   | (with_reducible exact caulkref19_Join.mono _ _ _ _)
   | (with_reducible exact caulkref19_Merge.mono _ _)
   | (with_reducible exact caulkref19_SameRanges.mono _ _ _)
   | (with_reducible exact span_Blocks.mono _ _)
   | (with_reducible exact span_Join.mono _ _ _ _)
   | (with_reducible exact span_Merge.mono _ _)
   | (with_reducible exact LeO.refl _)
   | (with_reducible exact LeO.none _)
   | (with_reducible refine LeO.ite ?_ ?_)
   | (with_reducible refine LeO.bind ?_ (fun _ => ?_))
   | exact ih0 _ _ _ _ _ _ _
   | exact ih1 _ _ _ _ _ _ _ _ _ _ _ _ _
   | exact ih2 _ _ _ _ _ _ _ _ _
   | exact caulklaw19_small.mono _ _
   | exact caulkref05_Same.mono _ _ _
   | exact caulkref19_Blocks.mono _ _
   | exact caulkref19_Join.mono _ _ _ _
   | exact caulkref19_Merge.mono _ _
   | exact caulkref19_SameRanges.mono _ _ _
   | exact span_Blocks.mono _ _
   | exact span_Join.mono _ _ _ _
   | exact span_Merge.mono _ _
   | exact LeO.none _
   | refine LeO.ite ?_ ?_
   | refine LeO.bind ?_ (fun _ => ?_)
  ·intro y0 y1 y2 y3 y4 y5 y6 y7 y8
   unfold caulklaw19_SpanMerges.j2
   repeat' first
   | (with_reducible exact ih0 _ _ _ _ _ _ _)
   | (with_reducible exact ih1 _ _ _ _ _ _ _ _ _ _ _ _ _)
   | (with_reducible exact ih2 _ _ _ _ _ _ _ _ _)
   | (with_reducible exact caulklaw19_small.mono _ _)
   | (with_reducible exact caulkref05_Same.mono _ _ _)
   | (with_reducible exact caulkref19_Blocks.mono _ _)
   | (with_reducible exact caulkref19_Join.mono _ _ _ _)
   | (with_reducible exact caulkref19_Merge.mono _ _)
   | (with_reducible exact caulkref19_SameRanges.mono _ _ _)
   | (with_reducible exact span_Blocks.mono _ _)
   | (with_reducible exact span_Join.mono _ _ _ _)
   | (with_reducible exact span_Merge.mono _ _)
   | (with_reducible exact LeO.refl _)
   | (with_reducible exact LeO.none _)
   | (with_reducible refine LeO.ite ?_ ?_)
   | (with_reducible refine LeO.bind ?_ (fun _ => ?_))
   | exact ih0 _ _ _ _ _ _ _
   | exact ih1 _ _ _ _ _ _ _ _ _ _ _ _ _
   | exact ih2 _ _ _ _ _ _ _ _ _
   | exact caulklaw19_small.mono _ _
   | exact caulkref05_Same.mono _ _ _
   | exact caulkref19_Blocks.mono _ _
   | exact caulkref19_Join.mono _ _ _ _
   | exact caulkref19_Merge.mono _ _
   | exact caulkref19_SameRanges.mono _ _ _
   | exact span_Blocks.mono _ _
   | exact span_Join.mono _ _ _ _
   | exact span_Merge.mono _ _
   | exact LeO.none _
   | refine LeO.ite ?_ ?_
   | refine LeO.bind ?_ (fun _ => ?_)
theorem caulklaw19_SpanMerges.mono : ∀ a0 a1 a2 a3 a4 a5 k, LeO (caulklaw19_SpanMerges.f k a0 a1 a2 a3 a4 a5) (caulklaw19_SpanMerges.f (k + 1) a0 a1 a2 a3 a4 a5) := by
 intro a0 a1 a2 a3 a4 a5 k
 obtain ⟨ih0, ih1, ih2⟩ := caulklaw19_SpanMerges.mono_l k
 unfold caulklaw19_SpanMerges.f
 repeat' first
   | (with_reducible exact ih0 _ _ _ _ _ _ _)
   | (with_reducible exact ih1 _ _ _ _ _ _ _ _ _ _ _ _ _)
   | (with_reducible exact ih2 _ _ _ _ _ _ _ _ _)
   | (with_reducible exact caulklaw19_small.mono _ _)
   | (with_reducible exact caulkref05_Same.mono _ _ _)
   | (with_reducible exact caulkref19_Blocks.mono _ _)
   | (with_reducible exact caulkref19_Join.mono _ _ _ _)
   | (with_reducible exact caulkref19_Merge.mono _ _)
   | (with_reducible exact caulkref19_SameRanges.mono _ _ _)
   | (with_reducible exact span_Blocks.mono _ _)
   | (with_reducible exact span_Join.mono _ _ _ _)
   | (with_reducible exact span_Merge.mono _ _)
   | (with_reducible exact LeO.refl _)
   | (with_reducible exact LeO.none _)
   | (with_reducible refine LeO.ite ?_ ?_)
   | (with_reducible refine LeO.bind ?_ (fun _ => ?_))
   | exact ih0 _ _ _ _ _ _ _
   | exact ih1 _ _ _ _ _ _ _ _ _ _ _ _ _
   | exact ih2 _ _ _ _ _ _ _ _ _
   | exact caulklaw19_small.mono _ _
   | exact caulkref05_Same.mono _ _ _
   | exact caulkref19_Blocks.mono _ _
   | exact caulkref19_Join.mono _ _ _ _
   | exact caulkref19_Merge.mono _ _
   | exact caulkref19_SameRanges.mono _ _ _
   | exact span_Blocks.mono _ _
   | exact span_Join.mono _ _ _ _
   | exact span_Merge.mono _ _
   | exact LeO.none _
   | refine LeO.ite ?_ ?_
   | refine LeO.bind ?_ (fun _ => ?_)
def caulklaw19_SpanMerges.T8 : Bool × List (List Nat × List Nat) := (true, [([], []), ([], []), ([1], [1]), ([2], [2]), ([], []), ([4], [4]), ([5], [5]), ([0, 3, 6], [0, 3, 6]), ([7], [7]), ([8], [8]), ([8], [8]), ([9, 7, 0, 1, 2, 3, 4, 5, 6, 7, 8, 9], [9]), ([10, 11, 0, 1, 2, 3, 4, 5, 6, 7, 8, 9, 10, 11], [10])])
def caulklaw19_SpanMerges.B8 : List Nat := [0, 0, 2, 6, 0, 16, 48, 127, 255, 511, 511, 1023, 4095]
theorem caulklaw19_SpanMerges.tab8 : rtab .any (opsOf Try.f4 8) = caulklaw19_SpanMerges.T8 := by kernel_rfl
theorem caulklaw19_SpanMerges.bits8 : waitsOk caulklaw19_SpanMerges.T8.2 caulklaw19_SpanMerges.B8 = true := by kernel_rfl
def caulklaw19_SpanMerges.T9 : Bool × List (List Nat × List Nat) := (true, [([], []), ([], []), ([1], [1]), ([2], [2]), ([], []), ([4], [4]), ([5], [5]), ([0, 3, 6], [0, 3, 6]), ([7], [7]), ([8], [8]), ([8], [8]), ([9, 7, 0, 1, 2, 3, 4, 5, 6, 7, 8, 9], [9]), ([10, 11, 0, 1, 2, 3, 4, 5, 6, 7, 8, 9, 10, 11], [10])])
def caulklaw19_SpanMerges.B9 : List Nat := [0, 0, 2, 6, 0, 16, 48, 127, 255, 511, 511, 1023, 4095]
theorem caulklaw19_SpanMerges.tab9 : rtab .any (opsOf Try.f4 9) = caulklaw19_SpanMerges.T9 := by kernel_rfl
theorem caulklaw19_SpanMerges.bits9 : waitsOk caulklaw19_SpanMerges.T9.2 caulklaw19_SpanMerges.B9 = true := by kernel_rfl
set_option maxHeartbeats 8000000 in
set_option maxRecDepth 100000 in
theorem caulklaw19_SpanMerges.calls (k : Nat) (A0 : Option Addr) (c0 : Nat) (l0 : List Int) (A1 : Option Addr) (c1 : Nat) (l1 : List (S28)) (a2 : Int) (A3 : Option Addr) (c3 : Nat) (l3 : List (S43)) (A4 : Option Addr) (c4 : Nat) (l4 : List ByteArray) (a5 : ByteArray) (r : Bool) (w : World) (hr0 : Kd.C (Kd.int .i64) w A0 l0.length l0) (hc0 : l0.length ≤ c0) (hr1 : Kd.C k28 w A1 l1.length l1) (hc1 : l1.length ≤ c1) (hr3 : Kd.C k43 w A3 l3.length l3) (hc3 : l3.length ≤ c3) (hr4 : Kd.C Kd.string w A4 l4.length l4) (hc4 : l4.length ≤ c4) (hrt : Aside0 (r = true)) (h : caulklaw19_SpanMerges.f k l0 l1 a2 l3 l4 a5 = some r) :
  Calls Try.prog 4 #[.slice A0 l0.length c0, .slice A1 l1.length c1, .int .i64 a2, .slice A3 l3.length c3, .slice A4 l4.length c4, .string a5] w fun e w' => e = .returned (.bool r) ∧ Below w.heap.size w w' := by
 have hu43 := Try.underlying43
 have HR0 := Aside0.mk hr0
 have HC0 := Aside0.mk hc0
 clear hr0 hc0
 have HR1 := Aside0.mk hr1
 have HC1 := Aside0.mk hc1
 clear hr1 hc1
 have HR3 := Aside0.mk hr3
 have HC3 := Aside0.mk hc3
 clear hr3 hc3
 have HR4 := Aside0.mk hr4
 have HC4 := Aside0.mk hc4
 clear hr4 hc4
 have HB := Aside0.mk (Below.refl w.heap.size w)
 have H : ((caulklaw19_small.f k l0).bind fun t279 => (if t279 = true then (caulklaw19_SpanMerges.j0 k l0 l1 a2 l3 l4 a5 (decide ((l4.length : Int) > 100))) else (caulklaw19_SpanMerges.j0 k l0 l1 a2 l3 l4 a5 true))) = some r := h
 clear h
 have HC7 := Aside0.mk H
 clear H
 go_enter Try.func4, Try.ntmps4
 (try simp only [List.append_eq, List.cons_append, List.nil_append])
 go_upto_region 1 with (fail)
 go_cut [32] (fun v32 wc => ∃ (kq : Nat) (x32_6 : Bool), v32 = .bool x32_6 ∧ Aside0 (caulklaw19_SpanMerges.j0 kq l0 l1 a2 l3 l4 a5 x32_6 = some r) ∧ Aside0 (kq ≤ k) ∧ Aside0 (Below w.heap.size w wc))
 case first =>
  have H := HC7.out
  clear HC7
  replace H := Option.bind_eq_some_iff.mp H
  obtain ⟨t279, A80, H⟩ := H
  replace H : (if t279 = true then (caulklaw19_SpanMerges.j0 k l0 l1 a2 l3 l4 a5 (decide ((l4.length : Int) > 100))) else (caulklaw19_SpanMerges.j0 k l0 l1 a2 l3 l4 a5 true)) = some r := H
  have A8 := Aside0.mk A80
  clear A80
  by_cases c9 : t279 = true
  ·subst c9
   have H1 : (caulklaw19_SpanMerges.j0 k l0 l1 a2 l3 l4 a5 (decide ((l4.length : Int) > 100))) = some r := by rw [if_pos rfl] at H; exact H
   clear H
   have H := H1
   clear H1
   have H' := Aside0.mk H
   clear H
   go_wp2_with (first | ((with_reducible refine HOpen.gate_append ?_); simp only [List.cons_append, List.nil_append]) | ((with_reducible refine gate_callee (f := 12) rfl ?_); refine goesL_ (some 26) rfl rfl Try.func12 (by kernel_rfl) rfl #[.slice A0 l0.length c0] rfl (by (try simp only [List.map_toArray, List.map_cons, List.map_nil]); first | done | rfl | (simp only [List.length_drop, List.length_take]; rfl)) ?_; (with_reducible refine (caulklaw19_small.calls k _ _ l0 true _ ?side1 ?side2 A8.out).mono ?_); (case side1 => repeat (first | exact (Kd.C_below HR0.out HB.out) | (with_reducible refine Kd.C_alloc ?_ _) | (with_reducible refine Kd.C_drewN ?_ _) | (with_reducible refine Kd.C_drew ?_))); (case side2 => exact HC0.out); rintro e w' ⟨rfl, ⟨nd, rfl⟩⟩; refine ⟨_, rfl, ?_⟩))
   go_meet
   case rel => exact ⟨_, (decide ((l4.length : Int) > 100)), (by first | rfl | (simp; done) | (simp [*]; done)), H', ⟨by first | omega | exact Nat.le_refl _⟩, ⟨by repeat (first | (with_reducible first | exact HB.out | apply below_alloc | apply pw_below_drewN | apply below_drew1) | exact HB.out)⟩⟩
  ·replace c9 := Bool.eq_false_iff.mpr c9
   subst c9
   have H1 : (caulklaw19_SpanMerges.j0 k l0 l1 a2 l3 l4 a5 true) = some r := by rw [if_neg (show ¬ (false = true) by decide)] at H; exact H
   clear H
   have H := H1
   clear H1
   have H' := Aside0.mk H
   clear H
   go_wp2_with (first | ((with_reducible refine HOpen.gate_append ?_); simp only [List.cons_append, List.nil_append]) | ((with_reducible refine gate_callee (f := 12) rfl ?_); refine goesL_ (some 26) rfl rfl Try.func12 (by kernel_rfl) rfl #[.slice A0 l0.length c0] rfl (by (try simp only [List.map_toArray, List.map_cons, List.map_nil]); first | done | rfl | (simp only [List.length_drop, List.length_take]; rfl)) ?_; (with_reducible refine (caulklaw19_small.calls k _ _ l0 false _ ?side1 ?side2 A8.out).mono ?_); (case side1 => repeat (first | exact (Kd.C_below HR0.out HB.out) | (with_reducible refine Kd.C_alloc ?_ _) | (with_reducible refine Kd.C_drewN ?_ _) | (with_reducible refine Kd.C_drew ?_))); (case side2 => exact HC0.out); rintro e w' ⟨rfl, ⟨nd, rfl⟩⟩; refine ⟨_, rfl, ?_⟩))
   go_meet
   case rel => exact ⟨_, (true), (by first | rfl | (simp; done) | (simp [*]; done)), H', ⟨by first | omega | exact Nat.le_refl _⟩, ⟨by repeat (first | (with_reducible first | exact HB.out | apply below_alloc | apply pw_below_drewN | apply below_drew1) | exact HB.out)⟩⟩
 case rest =>
  clear HC7
  try clear c1
  try clear p2
  try clear c3
  try clear c4
  try clear c9
  obtain ⟨kq, x32_6, rfl, HA, HJ6, HB⟩ := hcut
  cases kq with
  | zero => exact absurd HA.out (by simp [caulklaw19_SpanMerges.j0])
  | succ kj6 =>
   have H := HA.out
   clear HA
   simp only [caulklaw19_SpanMerges.j0] at H
   by_cases c10 : x32_6 = true
   ·subst c10
    have H1 : ((caulklaw19_lives.f).bind fun t280 => (some t280)) = some r := by rw [if_pos rfl] at H; exact H
    clear H
    have H := H1
    clear H1
    replace H := Option.bind_eq_some_iff.mp H
    obtain ⟨t280, A110, H⟩ := H
    replace H : (some t280) = some r := H
    have A11 := Aside0.mk A110
    clear A110
    obtain rfl := Option.some.inj H
    go_wp2_with (first | ((with_reducible refine HOpen.gate_append ?_); simp only [List.cons_append, List.nil_append]) | ((with_reducible refine gate_callee (f := 6) rfl ?_); refine goesL_ (some 33) rfl rfl Try.func6 (by kernel_rfl) rfl #[] rfl (by (try simp only [List.map_toArray, List.map_cons, List.map_nil]); first | done | rfl | (simp only [List.length_drop, List.length_take]; rfl)) ?_; (with_reducible refine (caulklaw19_lives.calls  t280 _ A11.out).mono ?_); rintro e w12 ⟨rfl, hb⟩; refine ⟨_, rfl, ?_⟩; have n0_ := Aside0.mk (below_step (by repeat (first | (with_reducible first | exact HB.out | apply below_alloc | apply pw_below_drewN | apply below_drew1) | exact HB.out)) hb); clear HB; have HB := n0_; clear n0_; (try clear hb); (try clear hb2); (try clear hk); (try clear hi)))
    go_ret
    exact ⟨by first | rfl | (simp [errW_none, errW_some] <;> rfl) | (simp [*, errW_none, errW_some] <;> rfl), by repeat (first | (with_reducible first | exact HB.out | apply below_alloc | apply pw_below_drewN | apply below_drew1) | exact HB.out)⟩
   ·replace c10 := Bool.eq_false_iff.mpr c10
    subst c10
    have H1 : ((span_Blocks.f kj6 l1).bind fun bt281 => ((caulkref19_Blocks.f kj6 l1).bind fun bt285 => ((span_Join.f kj6 a2 l3 l4).bind fun bt289 => ((caulkref19_Join.f kj6 a2 l3 l4).bind fun bt291 => (if (l3.length : Int) > 0 then (caulklaw19_SpanMerges.j1 kj6 l0 l3 l4 a5 bt281.1 bt281.2 bt285.1 bt285.2 bt289.1 bt289.2 bt291.1 bt291.2 (decide ((l4.length : Int) > 0))) else (caulklaw19_SpanMerges.j1 kj6 l0 l3 l4 a5 bt281.1 bt281.2 bt285.1 bt285.2 bt289.1 bt289.2 bt291.1 bt291.2 false)))))) = some r := by rw [if_neg (show ¬ (false = true) by decide)] at H; exact H
    clear H
    have H := H1
    clear H1
    replace H := Option.bind_eq_some_iff.mp H
    obtain ⟨⟨t281, t282⟩, A130, H⟩ := H
    replace H : ((caulkref19_Blocks.f kj6 l1).bind fun bt285 => ((span_Join.f kj6 a2 l3 l4).bind fun bt289 => ((caulkref19_Join.f kj6 a2 l3 l4).bind fun bt291 => (if (l3.length : Int) > 0 then (caulklaw19_SpanMerges.j1 kj6 l0 l3 l4 a5 t281 t282 bt285.1 bt285.2 bt289.1 bt289.2 bt291.1 bt291.2 (decide ((l4.length : Int) > 0))) else (caulklaw19_SpanMerges.j1 kj6 l0 l3 l4 a5 t281 t282 bt285.1 bt285.2 bt289.1 bt289.2 bt291.1 bt291.2 false))))) = some r := H
    have A13 := Aside0.mk A130
    clear A130
    replace H := Option.bind_eq_some_iff.mp H
    obtain ⟨⟨t285, t286⟩, A140, H⟩ := H
    replace H : ((span_Join.f kj6 a2 l3 l4).bind fun bt289 => ((caulkref19_Join.f kj6 a2 l3 l4).bind fun bt291 => (if (l3.length : Int) > 0 then (caulklaw19_SpanMerges.j1 kj6 l0 l3 l4 a5 t281 t282 t285 t286 bt289.1 bt289.2 bt291.1 bt291.2 (decide ((l4.length : Int) > 0))) else (caulklaw19_SpanMerges.j1 kj6 l0 l3 l4 a5 t281 t282 t285 t286 bt289.1 bt289.2 bt291.1 bt291.2 false)))) = some r := H
    have A14 := Aside0.mk A140
    clear A140
    replace H := Option.bind_eq_some_iff.mp H
    obtain ⟨⟨t289, t290⟩, A150, H⟩ := H
    replace H : ((caulkref19_Join.f kj6 a2 l3 l4).bind fun bt291 => (if (l3.length : Int) > 0 then (caulklaw19_SpanMerges.j1 kj6 l0 l3 l4 a5 t281 t282 t285 t286 t289 t290 bt291.1 bt291.2 (decide ((l4.length : Int) > 0))) else (caulklaw19_SpanMerges.j1 kj6 l0 l3 l4 a5 t281 t282 t285 t286 t289 t290 bt291.1 bt291.2 false))) = some r := H
    have A15 := Aside0.mk A150
    clear A150
    replace H := Option.bind_eq_some_iff.mp H
    obtain ⟨⟨t291, t292⟩, A160, H⟩ := H
    replace H : (if (l3.length : Int) > 0 then (caulklaw19_SpanMerges.j1 kj6 l0 l3 l4 a5 t281 t282 t285 t286 t289 t290 t291 t292 (decide ((l4.length : Int) > 0))) else (caulklaw19_SpanMerges.j1 kj6 l0 l3 l4 a5 t281 t282 t285 t286 t289 t290 t291 t292 false)) = some r := H
    have A16 := Aside0.mk A160
    clear A160
    have HC17 := Aside0.mk H
    clear H
    go_upto_region 7 with (first | ((with_reducible refine gate_callee (f := 13) rfl ?_); refine goesL_ (some 36) rfl rfl Try.func13 (by kernel_rfl) rfl #[.slice A1 l1.length c1] rfl (by (try simp only [List.map_toArray, List.map_cons, List.map_nil]); first | done | rfl | (simp only [List.length_drop, List.length_take]; rfl)) ?_; (with_reducible refine (span_Blocks.calls kj6 _ _ l1 t281 t282 _ ?side1 ?side2 A13.out).mono ?_); (case side1 => repeat (first | exact (Kd.C_below HR1.out HB.out) | (with_reducible refine Kd.C_alloc ?_ _) | (with_reducible refine Kd.C_drewN ?_ _) | (with_reducible refine Kd.C_drew ?_))); (case side2 => exact HC1.out); rintro e w18 ⟨v283, rfl, ho0, hb⟩; refine ⟨_, rfl, ?_⟩; have n0_ := Aside0.mk (Kd.R_lower ho0 (below_size (by repeat (first | (with_reducible first | exact HB.out | apply below_alloc | apply pw_below_drewN | apply below_drew1) | exact HB.out)))); have n1_ := Aside0.mk (below_step (by repeat (first | (with_reducible first | exact HB.out | apply below_alloc | apply pw_below_drewN | apply below_drew1) | exact HB.out)) hb); clear HB; have HO284 := n0_; have HB := n1_; clear n0_ n1_; (try clear hb); (try clear hb2); (try clear hk); (try clear hi); (try clear ho0)) | ((with_reducible refine gate_callee (f := 14) rfl ?_); refine goesL_ (some 41) rfl rfl Try.func14 (by kernel_rfl) rfl #[.slice A1 l1.length c1] rfl (by (try simp only [List.map_toArray, List.map_cons, List.map_nil]); first | done | rfl | (simp only [List.length_drop, List.length_take]; rfl)) ?_; (with_reducible refine (caulkref19_Blocks.calls kj6 _ _ l1 t285 t286 _ ?side1 ?side2 A14.out).mono ?_); (case side1 => repeat (first | exact (Kd.C_below HR1.out HB.out) | (with_reducible refine Kd.C_alloc ?_ _) | (with_reducible refine Kd.C_drewN ?_ _) | (with_reducible refine Kd.C_drew ?_))); (case side2 => exact HC1.out); rintro e w19 ⟨v287, rfl, ho0, hb⟩; refine ⟨_, rfl, ?_⟩; have n0_ := Aside0.mk (Kd.R_elder' (by (with_reducible repeat (first | apply Kd.R_alloc | apply Kd.R_drewN | apply Kd.R_drew)); exact HO284.out) (Kd.R_base ho0) hb); have n1_ := Aside0.mk (Kd.R_lower (Kd.R_new' ho0 (Kd.R_lt (by (with_reducible repeat (first | apply Kd.R_alloc | apply Kd.R_drewN | apply Kd.R_drew)); exact HO284.out))) (below_size (by repeat (first | (with_reducible first | exact HB.out | apply below_alloc | apply pw_below_drewN | apply below_drew1) | exact HB.out)))); have n2_ := Aside0.mk (below_step (by repeat (first | (with_reducible first | exact HB.out | apply below_alloc | apply pw_below_drewN | apply below_drew1) | exact HB.out)) hb); clear HO284; clear HB; have HO284 := n0_; have HO288 := n1_; have HB := n2_; clear n0_ n1_ n2_; (try clear hb); (try clear hb2); (try clear hk); (try clear hi); (try clear ho0)) | ((with_reducible refine gate_callee (f := 15) rfl ?_); refine goesL_ (some 48) rfl rfl Try.func15 (by kernel_rfl) rfl #[.int .i64 a2, .slice A3 l3.length c3, .slice A4 l4.length c4] rfl (by (try simp only [List.map_toArray, List.map_cons, List.map_nil]); first | done | rfl | (simp only [List.length_drop, List.length_take]; rfl)) ?_; (with_reducible refine (span_Join.calls kj6 a2 _ _ l3 _ _ l4 t289 t290 _ ?side1 ?side2 ?side3 ?side4 A15.out).mono ?_); (case side1 => repeat (first | exact (Kd.C_below HR3.out HB.out) | (with_reducible refine Kd.C_alloc ?_ _) | (with_reducible refine Kd.C_drewN ?_ _) | (with_reducible refine Kd.C_drew ?_))); (case side2 => exact HC3.out); (case side3 => repeat (first | exact (Kd.C_below HR4.out HB.out) | (with_reducible refine Kd.C_alloc ?_ _) | (with_reducible refine Kd.C_drewN ?_ _) | (with_reducible refine Kd.C_drew ?_))); (case side4 => exact HC4.out); rintro e w20 ⟨rfl, hb⟩; refine ⟨_, rfl, ?_⟩; have n0_ := Aside0.mk (Kd.R_below (by (with_reducible repeat (first | apply Kd.R_alloc | apply Kd.R_drewN | apply Kd.R_drew)); exact HO284.out) hb); have n1_ := Aside0.mk (Kd.R_below (by (with_reducible repeat (first | apply Kd.R_alloc | apply Kd.R_drewN | apply Kd.R_drew)); exact HO288.out) hb); have n2_ := Aside0.mk (below_step (by repeat (first | (with_reducible first | exact HB.out | apply below_alloc | apply pw_below_drewN | apply below_drew1) | exact HB.out)) hb); clear HO284; clear HO288; clear HB; have HO284 := n0_; have HO288 := n1_; have HB := n2_; clear n0_ n1_ n2_; (try clear hb); (try clear hb2); (try clear hk); (try clear hi)) | ((with_reducible refine gate_callee (f := 16) rfl ?_); refine goesL_ (some 55) rfl rfl Try.func16 (by kernel_rfl) rfl #[.int .i64 a2, .slice A3 l3.length c3, .slice A4 l4.length c4] rfl (by (try simp only [List.map_toArray, List.map_cons, List.map_nil]); first | done | rfl | (simp only [List.length_drop, List.length_take]; rfl)) ?_; (with_reducible refine (caulkref19_Join.calls kj6 a2 _ _ l3 _ _ l4 t291 t292 _ ?side1 ?side2 ?side3 ?side4 A16.out).mono ?_); (case side1 => repeat (first | exact (Kd.C_below HR3.out HB.out) | (with_reducible refine Kd.C_alloc ?_ _) | (with_reducible refine Kd.C_drewN ?_ _) | (with_reducible refine Kd.C_drew ?_))); (case side2 => exact HC3.out); (case side3 => repeat (first | exact (Kd.C_below HR4.out HB.out) | (with_reducible refine Kd.C_alloc ?_ _) | (with_reducible refine Kd.C_drewN ?_ _) | (with_reducible refine Kd.C_drew ?_))); (case side4 => exact HC4.out); rintro e w21 ⟨rfl, hb⟩; refine ⟨_, rfl, ?_⟩; have n0_ := Aside0.mk (Kd.R_below (by (with_reducible repeat (first | apply Kd.R_alloc | apply Kd.R_drewN | apply Kd.R_drew)); exact HO284.out) hb); have n1_ := Aside0.mk (Kd.R_below (by (with_reducible repeat (first | apply Kd.R_alloc | apply Kd.R_drewN | apply Kd.R_drew)); exact HO288.out) hb); have n2_ := Aside0.mk (below_step (by repeat (first | (with_reducible first | exact HB.out | apply below_alloc | apply pw_below_drewN | apply below_drew1) | exact HB.out)) hb); clear HO284; clear HO288; clear HB; have HO284 := n0_; have HO288 := n1_; have HB := n2_; clear n0_ n1_ n2_; (try clear hb); (try clear hb2); (try clear hk); (try clear hi)))
    (try simp only [Act.put, List.setIfInBounds_toArray, List.set_cons_zero, List.set_cons_succ])
    go_cut [65] (fun v65 wc => ∃ (kq : Nat) (x65_16 : Bool), v65 = .bool x65_16 ∧ Aside0 (caulklaw19_SpanMerges.j1 kq l0 l3 l4 a5 t281 t282 t285 t286 t289 t290 t291 t292 x65_16 = some r) ∧ Aside0 (kq ≤ kj6) ∧ Aside0 (Kd.R (Kd.int .i64) 3 wc w.heap.size (fun k_ => some k_ ≠ (v287 : Value).ownBlock) v283 t281) ∧ Aside0 (Kd.R (Kd.int .i64) 3 wc w.heap.size (fun k_ => some k_ ≠ (v283 : Value).ownBlock) v287 t285) ∧ Aside0 (Below w.heap.size w wc))
    case first =>
     have H := HC17.out
     clear HC17
     by_cases c22 : (l3.length : Int) > 0
     ·rw [if_pos c22] at H
      have c22b0 : decide (0 < (l3.length : Int)) = true := decide_eq_true c22
      have c22b1 : decide (0 < l3.length) = true := decide_eq_true (by omega)
      clear c22
      (first | rw [c22b0] | (simp only [i64_w, i32_w]; rw [c22b0]) | skip)
      have H' := Aside0.mk H
      clear H
      go_wp2
      go_meet
      case rel => exact ⟨_, (decide ((l4.length : Int) > 0)), (by first | rfl | (simp; done) | (simp [*]; done)), H', ⟨by have := HJ6.out; first | omega | exact Nat.le_refl _⟩, ⟨by (with_reducible repeat (first | apply Kd.R_alloc | apply Kd.R_drewN | apply Kd.R_drew)); exact Kd.R_mono HO284.out (fun _ hk => hk.2)⟩, ⟨by (with_reducible repeat (first | apply Kd.R_alloc | apply Kd.R_drewN | apply Kd.R_drew)); exact Kd.R_mono HO288.out (fun _ hk => hk.2)⟩, ⟨by repeat (first | (with_reducible first | exact HB.out | apply below_alloc | apply pw_below_drewN | apply below_drew1) | exact HB.out)⟩⟩
     ·rw [if_neg c22] at H
      have c22b0 : decide (0 < (l3.length : Int)) = false := decide_eq_false c22
      have c22b1 : decide (0 < l3.length) = false := decide_eq_false (by omega)
      clear c22
      (first | rw [c22b0] | (simp only [i64_w, i32_w]; rw [c22b0]) | skip)
      have H' := Aside0.mk H
      clear H
      go_wp2
      go_meet
      case rel => exact ⟨_, (false), (by first | rfl | (simp; done) | (simp [*]; done)), H', ⟨by have := HJ6.out; first | omega | exact Nat.le_refl _⟩, ⟨by (with_reducible repeat (first | apply Kd.R_alloc | apply Kd.R_drewN | apply Kd.R_drew)); exact Kd.R_mono HO284.out (fun _ hk => hk.2)⟩, ⟨by (with_reducible repeat (first | apply Kd.R_alloc | apply Kd.R_drewN | apply Kd.R_drew)); exact Kd.R_mono HO288.out (fun _ hk => hk.2)⟩, ⟨by repeat (first | (with_reducible first | exact HB.out | apply below_alloc | apply pw_below_drewN | apply below_drew1) | exact HB.out)⟩⟩
    case rest =>
     clear HC17
     try clear c1
     try clear c2
     try clear p2
     try clear c3
     try clear c4
     try clear c6
     try clear c9
     try clear c10
     try clear c12
     try clear c13
     try clear c14
     try clear c15
     try clear c16
     try clear c22
     try clear c22b0
     try clear c22b1
     try clear p2
     obtain ⟨kq, x65_16, rfl, HA, HJ16, HO_13, HO_15, HB⟩ := hcut
     cases kq with
     | zero => exact absurd HA.out (by simp [caulklaw19_SpanMerges.j1])
     | succ kj16 =>
      have H := HA.out
      clear HA
      simp only [caulklaw19_SpanMerges.j1] at H
      have HC23 := Aside0.mk H
      clear H
      go_upto_if 65 with (fail)
      go_cut [] (fun wc => ∃ (kq : Nat), Aside0 (caulklaw19_SpanMerges.j2 kq l0 t281 t282 t285 t286 t289 t290 t291 t292 = some r) ∧ Aside0 (kq ≤ kj16) ∧ Aside0 (Kd.R (Kd.int .i64) 3 wc w.heap.size (fun k_ => some k_ ≠ (v287 : Value).ownBlock) v283 t281) ∧ Aside0 (Kd.R (Kd.int .i64) 3 wc w.heap.size (fun k_ => some k_ ≠ (v283 : Value).ownBlock) v287 t285) ∧ Aside0 (Below w.heap.size w wc))
      case first =>
       have H := HC23.out
       clear HC23
       by_cases c24 : x65_16 = true
       ·subst c24
        have H1 : (if 0 < (l3.length : Int) then (if 0 < (l4.length : Int) then ((span_Over.f a5 ((rd_T43 l3 0).f0) ((rd_T43 l3 0).f1) ((rd_T43 l3 0).f2) (rdOf ByteArray.empty l4 0)).bind fun bt295 => ((caulkref19_Over.f a5 ((rd_T43 l3 0).f0) ((rd_T43 l3 0).f1) ((rd_T43 l3 0).f2) (rdOf ByteArray.empty l4 0)).bind fun bt299 => (if bt295.1.toList = bt299.1.toList then (if bt295.2 = bt299.2 then (caulklaw19_SpanMerges.j2 kj16 l0 t281 t282 t285 t286 t289 t290 t291 t292) else (some false)) else (some false)))) else (none)) else (none)) = some r := by rw [if_pos rfl] at H; exact H
        clear H
        have H := H1
        clear H1
        by_cases c25 : 0 < (l3.length : Int)
        ·rw [if_pos c25] at H
         have c25b0 : decide (0 < (l3.length : Int)) = true := decide_eq_true c25
         have c25b1 : decide (0 < l3.length) = true := decide_eq_true (by omega)
         clear c25
         (first | rw [c25b0] | (simp only [i64_w, i32_w]; rw [c25b0]) | skip)
         by_cases c26 : 0 < (l4.length : Int)
         ·rw [if_pos c26] at H
          have c26b0 : decide (0 < (l4.length : Int)) = true := decide_eq_true c26
          have c26b1 : decide (0 < l4.length) = true := decide_eq_true (by omega)
          clear c26
          replace H := Option.bind_eq_some_iff.mp H
          obtain ⟨⟨t295, t296⟩, A270, H⟩ := H
          replace H : ((caulkref19_Over.f a5 ((rd_T43 l3 0).f0) ((rd_T43 l3 0).f1) ((rd_T43 l3 0).f2) (rdOf ByteArray.empty l4 0)).bind fun bt299 => (if t295.toList = bt299.1.toList then (if t296 = bt299.2 then (caulklaw19_SpanMerges.j2 kj16 l0 t281 t282 t285 t286 t289 t290 t291 t292) else (some false)) else (some false))) = some r := H
          have A27 := Aside0.mk A270
          clear A270
          replace H := Option.bind_eq_some_iff.mp H
          obtain ⟨⟨t299, t300⟩, A280, H⟩ := H
          replace H : (if t295.toList = t299.toList then (if t296 = t300 then (caulklaw19_SpanMerges.j2 kj16 l0 t281 t282 t285 t286 t289 t290 t291 t292) else (some false)) else (some false)) = some r := H
          have A28 := Aside0.mk A280
          clear A280
          by_cases c29 : t295.toList = t299.toList
          ·rw [if_pos c29] at H
           have c29b0 : (t295.toList == t299.toList) = true := beq_iff_eq.mpr c29
           have c29b1 : (t295.toList != t299.toList) = false := bne_eq_false_iff_eq.mpr c29
           clear c29
           by_cases c30 : t296 = t300
           ·rw [if_pos c30] at H
            have c30b0 : (t296 == t300) = true := beq_iff_eq.mpr c30
            have c30b1 : (t296 != t300) = false := bne_eq_false_iff_eq.mpr c30
            clear c30
            have H' := Aside0.mk H
            clear H
            try go_wp2
            have n0_ := Aside0.mk (Kd.R_drew HO_13.out)
            have n1_ := Aside0.mk (Kd.R_drew HO_15.out)
            have n2_ := Aside0.mk (below_drew1 HB.out)
            clear HO_13
            clear HO_15
            clear HB
            have HO_13 := n0_
            have HO_15 := n1_
            have HB := n2_
            clear n0_ n1_ n2_
            have p293 : 0 ≤ (0 : Int) := (by omega)
            have q293 : 0 < (l3.length : Int) := of_decide_eq_true (by first | (with_reducible assumption) | assumption)
            obtain ⟨ad293, e293, hx293_0, hx293_1, hx293_2⟩ := at_T43 HR3.out 0 p293 q293
            have hw293_2 := hx293_2
            (try rw [show ((0 : Int)).toNat = 0 from rfl] at hw293_2)
            (try rw [show 0 * 3 = 0 from rfl] at hw293_2)
            (try rw [Addr.add_zero'] at hw293_2)
            have hw293_1 := hx293_1
            (try rw [show ((0 : Int)).toNat = 0 from rfl] at hw293_1)
            (try rw [show 0 * 3 = 0 from rfl] at hw293_1)
            (try rw [Addr.add_zero'] at hw293_1)
            have hw293_0 := hx293_0
            (try rw [show ((0 : Int)).toNat = 0 from rfl] at hw293_0)
            (try rw [show 0 * 3 = 0 from rfl] at hw293_0)
            (try rw [Addr.add_zero'] at hw293_0)
            cases e293
            have qi293 : (0 < l3.length) = True := eq_true (by omega)
            (try rw [show ((0 : Int)).toNat = 0 from rfl] at hx293_0)
            (try rw [show 0 * 3 = 0 from rfl] at hx293_0)
            (try rw [Addr.add_zero'] at hx293_0)
            (try rw [show ((0 : Int)).toNat = 0 from rfl] at hx293_1)
            (try rw [show 0 * 3 = 0 from rfl] at hx293_1)
            (try rw [Addr.add_zero'] at hx293_1)
            (try rw [show ((0 : Int)).toNat = 0 from rfl] at hx293_2)
            (try rw [show 0 * 3 = 0 from rfl] at hx293_2)
            (try rw [Addr.add_zero'] at hx293_2)
            replace hx293_0 := (HB.out.cell (World.block_lt_of_cell? w _ hx293_0)).trans hx293_0
            replace hx293_1 := (HB.out.cell (World.block_lt_of_cell? w _ hx293_1)).trans hx293_1
            replace hx293_2 := (HB.out.cell (World.block_lt_of_cell? w _ hx293_2)).trans hx293_2
            replace p293 := eq_true p293
            replace q293 := eq_true q293
            have p294 : 0 ≤ (0 : Int) := (by omega)
            have q294 : 0 < (l4.length : Int) := of_decide_eq_true (by first | (with_reducible assumption) | assumption)
            obtain ⟨ad294, e294, hx294_0⟩ := Kd.at_string HR4.out 0 p294 q294
            have hw294_0 := hx294_0
            (try rw [show ((0 : Int)).toNat = 0 from rfl] at hw294_0)
            (try rw [show 0 * 1 = 0 from rfl] at hw294_0)
            (try rw [Addr.add_zero'] at hw294_0)
            cases e294
            have qi294 : (0 < l4.length) = True := eq_true (by omega)
            (try rw [show ((0 : Int)).toNat = 0 from rfl] at hx294_0)
            (try rw [Addr.add_zero'] at hx294_0)
            replace hx294_0 := (HB.out.cell (World.block_lt_of_cell? w _ hx294_0)).trans hx294_0
            replace p294 := eq_true p294
            replace q294 := eq_true q294
            refine start_ (n := 13) (S := fun w' => w'.cell? ad293 = some (.int .i64 ((rd_T43 l3 0).f0)) ∧ w'.cell? ⟨ad293.block, ad293.off + 1, none⟩ = some (.int .i64 ((rd_T43 l3 0).f1)) ∧ w'.cell? ⟨ad293.block, ad293.off + 2, none⟩ = some (.int .i64 ((rd_T43 l3 0).f2)) ∧ w'.cell? ad294 = some (.string (rdOf ByteArray.empty l4 0))) (ds := []) #[false, false, false, false, false, false, false, false, false, false, false, false, false] (by kernel_rfl) rfl rfl ⟨((HB.out.cell (World.block_lt_of_cell? w _ hw293_0)).trans hw293_0), ((HB.out.cell (World.block_lt_of_cell? w _ hw293_1)).trans hw293_1), ((HB.out.cell (World.block_lt_of_cell? w _ hw293_2)).trans hw293_2), ((HB.out.cell (World.block_lt_of_cell? w _ hw294_0)).trans hw294_0)⟩ (fun hHeld => ?_); refine with_tabW caulklaw19_SpanMerges.tab8 caulklaw19_SpanMerges.bits8 (fun HT_ HW_ => ?_)
            generalize wc.drew = w31 at HO_13 HO_15 HB hx293_0 hx293_1 hx293_2 hx294_0 hHeld ⊢
            refine pure_ (i := 0) (N := some 67) (v := ?_) (a' := ?_) #[true, false, false, false, false, false, false, false, false, false, false, false, false] rfl rfl (any_of HT_.out (by kernel_rfl)) (fun _ _ _ h => h) (Or.inl ⟨by rfl, ?_⟩) ?_ ?_
            rotate_left
            ·intro w'
             go_simp
             with_reducible rfl
            rotate_left
            ·simp only [Act.put, List.setIfInBounds_toArray, List.set_cons_zero, List.set_cons_succ, i64_w, i32_w]
             rfl
            refine pure_ (i := 1) (N := some 68) (v := ?_) (a' := ?_) #[true, true, false, false, false, false, false, false, false, false, false, false, false] rfl rfl (any_of HT_.out (by kernel_rfl)) (fun _ _ _ h => h) (Or.inl ⟨by rfl, ?_⟩) ?_ ?_
            rotate_left
            ·intro w'
             go_simp
             with_reducible rfl
            rotate_left
            ·simp only [Act.put, List.setIfInBounds_toArray, List.set_cons_zero, List.set_cons_succ, i64_w, i32_w]
             rfl
            refine pure_ (i := 2) (N := some 69) (v := ?_) (a' := ?_) #[true, true, true, false, false, false, false, false, false, false, false, false, false] rfl rfl (any_of HT_.out (by kernel_rfl)) (fun _ _ _ h => h) (Or.inl ⟨by rfl, ?_⟩) ?_ ?_
            rotate_left
            ·intro w'
             go_simp
             with_reducible rfl
            rotate_left
            ·simp only [Act.put, List.setIfInBounds_toArray, List.set_cons_zero, List.set_cons_succ, i64_w, i32_w]
             rfl
            refine pure_ (i := 4) (N := some 71) (v := ?_) (a' := ?_) #[true, true, true, false, true, false, false, false, false, false, false, false, false] rfl rfl (any_of HT_.out (by kernel_rfl)) (fun _ _ _ h => h) (Or.inl ⟨by rfl, ?_⟩) ?_ ?_
            rotate_left
            ·intro w'
             go_simp
             with_reducible rfl
            rotate_left
            ·simp only [Act.put, List.setIfInBounds_toArray, List.set_cons_zero, List.set_cons_succ, i64_w, i32_w]
             rfl
            refine pure_ (i := 5) (N := some 72) (v := ?_) (a' := ?_) #[true, true, true, false, true, true, false, false, false, false, false, false, false] rfl rfl (any_of HT_.out (by kernel_rfl)) (fun _ _ _ h => h) (Or.inl ⟨by rfl, ?_⟩) ?_ ?_
            rotate_left
            ·intro w'
             go_simp
             with_reducible rfl
            rotate_left
            ·simp only [Act.put, List.setIfInBounds_toArray, List.set_cons_zero, List.set_cons_succ, i64_w, i32_w]
             rfl
            refine take_ (i := 3) (N := some 70) (v := ?_) (a' := ?_) #[true, true, true, true, true, true, false, false, false, false, false, false, false] rfl rfl (take_ofW HT_.out HW_.out (by kernel_rfl)) (fun _ _ _ h => h) (Or.inl ⟨by rfl, ?_⟩) hHeld ?_ ?_
            rotate_left
            ·rintro w' ⟨s0, s1, s2, s3⟩
             go_simp
             with_reducible rfl
            rotate_left
            ·simp only [Act.put, List.setIfInBounds_toArray, List.set_cons_zero, List.set_cons_succ, i64_w, i32_w]
             rfl
            refine take_ (i := 6) (N := some 73) (v := ?_) (a' := ?_) #[true, true, true, true, true, true, true, false, false, false, false, false, false] rfl rfl (take_ofW HT_.out HW_.out (by kernel_rfl)) (fun _ _ _ h => h) (Or.inl ⟨by rfl, ?_⟩) hHeld ?_ ?_
            rotate_left
            ·rintro w' ⟨s0, s1, s2, s3⟩
             go_simp
             with_reducible rfl
            rotate_left
            ·simp only [Act.put, List.setIfInBounds_toArray, List.set_cons_zero, List.set_cons_succ, i64_w, i32_w]
             rfl
            refine one_ (i := 7) (N := some 74) #[true, true, true, true, true, true, true, true, false, false, false, false, false] rfl rfl (one_of HT_.out (by kernel_rfl)) (by decide) (fun K hK => ?_)
            refine goes_ Try.func17 (by kernel_rfl) rfl #[.string a5, .agg #[.int .i64 ((rd_T43 l3 0).f0), .int .i64 ((rd_T43 l3 0).f1), .int .i64 ((rd_T43 l3 0).f2)], .string (rdOf ByteArray.empty l4 0)] (by rfl) rfl rfl (by (try simp only [List.map_toArray, List.map_cons, List.map_nil]); first | done | rfl | (simp only [List.length_drop, List.length_take]; rfl)) ?_
            with_reducible refine (span_Over.calls a5 ((rd_T43 l3 0).f0) ((rd_T43 l3 0).f1) ((rd_T43 l3 0).f2) (rdOf ByteArray.empty l4 0) t295 t296 _ A27.out).mono ?_
            rintro e w32 ⟨rfl, hb⟩
            refine ⟨_, rfl, ?_⟩
            have n0_ := Aside0.mk (Kd.R_below (by (with_reducible repeat (first | apply Kd.R_alloc | apply Kd.R_drewN | apply Kd.R_drew)); exact HO_13.out) hb)
            have n1_ := Aside0.mk (Kd.R_below (by (with_reducible repeat (first | apply Kd.R_alloc | apply Kd.R_drewN | apply Kd.R_drew)); exact HO_15.out) hb)
            have n2_ := Aside0.mk (below_step (by repeat (first | (with_reducible first | exact HB.out | apply below_alloc | apply pw_below_drewN | apply below_drew1) | exact HB.out)) hb)
            clear HO_13
            clear HO_15
            clear HB
            have HO_13 := n0_
            have HO_15 := n1_
            have HB := n2_
            clear n0_ n1_ n2_
            (try clear hb)
            (try clear hb2)
            (try clear hk)
            (try clear hi)
            refine hK.out _ _ ⟨((HB.out.cell (World.block_lt_of_cell? w _ hw293_0)).trans hw293_0), ((HB.out.cell (World.block_lt_of_cell? w _ hw293_1)).trans hw293_1), ((HB.out.cell (World.block_lt_of_cell? w _ hw293_2)).trans hw293_2), ((HB.out.cell (World.block_lt_of_cell? w _ hw294_0)).trans hw294_0)⟩ (fun hHeld => ?_)
            clear hK K
            refine norm_ (a' := ?_) ?_ ?_
            rotate_left
            ·show Act.put _ (some 74) _ = _
             simp only [Act.put, List.setIfInBounds_toArray, List.set_cons_zero, List.set_cons_succ, i64_w, i32_w]
             rfl
            refine pure_ (i := 8) (N := some 66) (v := ?_) (a' := ?_) #[true, true, true, true, true, true, true, true, true, false, false, false, false] rfl rfl (any_of HT_.out (by kernel_rfl)) (fun _ _ _ h => h) (Or.inl ⟨by rfl, ?_⟩) ?_ ?_
            rotate_left
            ·intro w'
             go_simp
             with_reducible rfl
            rotate_left
            ·simp only [Act.put, List.setIfInBounds_toArray, List.set_cons_zero, List.set_cons_succ, i64_w, i32_w]
             rfl
            refine pure_ (i := 9) (N := some 75) (v := ?_) (a' := ?_) #[true, true, true, true, true, true, true, true, true, true, false, false, false] rfl rfl (any_of HT_.out (by kernel_rfl)) (fun _ _ _ h => h) (Or.inl ⟨by rfl, ?_⟩) ?_ ?_
            rotate_left
            ·intro w'
             go_simp
             with_reducible rfl
            rotate_left
            ·simp only [Act.put, List.setIfInBounds_toArray, List.set_cons_zero, List.set_cons_succ, i64_w, i32_w]
             rfl
            refine pure_ (i := 10) (N := some 76) (v := ?_) (a' := ?_) #[true, true, true, true, true, true, true, true, true, true, true, false, false] rfl rfl (any_of HT_.out (by kernel_rfl)) (fun _ _ _ h => h) (Or.inl ⟨by rfl, ?_⟩) ?_ ?_
            rotate_left
            ·intro w'
             go_simp
             with_reducible rfl
            rotate_left
            ·simp only [Act.put, List.setIfInBounds_toArray, List.set_cons_zero, List.set_cons_succ, i64_w, i32_w]
             rfl
            refine pure_ (i := 11) (N := some 21) (v := ?_) (a' := ?_) #[true, true, true, true, true, true, true, true, true, true, true, true, false] rfl rfl (any_of HT_.out (by kernel_rfl)) (fun _ _ _ h => h) (Or.inl ⟨by rfl, ?_⟩) ?_ ?_
            rotate_left
            ·intro w'
             go_simp
             with_reducible rfl
            rotate_left
            ·simp only [Act.put, List.setIfInBounds_toArray, List.set_cons_zero, List.set_cons_succ, i64_w, i32_w]
             rfl
            refine pure_ (i := 12) (N := some 22) (v := ?_) (a' := ?_) #[true, true, true, true, true, true, true, true, true, true, true, true, true] rfl rfl (any_of HT_.out (by kernel_rfl)) (fun _ _ _ h => h) (Or.inl ⟨by rfl, ?_⟩) ?_ ?_
            rotate_left
            ·intro w'
             go_simp
             with_reducible rfl
            rotate_left
            ·simp only [Act.put, List.setIfInBounds_toArray, List.set_cons_zero, List.set_cons_succ, i64_w, i32_w]
             rfl
            refine done_ (done_of HT_.out (by kernel_rfl)) ?_
            try go_wp2
            have n0_ := Aside0.mk (Kd.R_drew HO_13.out)
            have n1_ := Aside0.mk (Kd.R_drew HO_15.out)
            have n2_ := Aside0.mk (below_drew1 HB.out)
            clear HO_13
            clear HO_15
            clear HB
            have HO_13 := n0_
            have HO_15 := n1_
            have HB := n2_
            clear n0_ n1_ n2_
            have p297 : 0 ≤ (0 : Int) := (by omega)
            have q297 : 0 < (l3.length : Int) := of_decide_eq_true (by first | (with_reducible assumption) | assumption)
            obtain ⟨ad297, e297, hx297_0, hx297_1, hx297_2⟩ := at_T43 HR3.out 0 p297 q297
            have hw297_2 := hx297_2
            (try rw [show ((0 : Int)).toNat = 0 from rfl] at hw297_2)
            (try rw [show 0 * 3 = 0 from rfl] at hw297_2)
            (try rw [Addr.add_zero'] at hw297_2)
            have hw297_1 := hx297_1
            (try rw [show ((0 : Int)).toNat = 0 from rfl] at hw297_1)
            (try rw [show 0 * 3 = 0 from rfl] at hw297_1)
            (try rw [Addr.add_zero'] at hw297_1)
            have hw297_0 := hx297_0
            (try rw [show ((0 : Int)).toNat = 0 from rfl] at hw297_0)
            (try rw [show 0 * 3 = 0 from rfl] at hw297_0)
            (try rw [Addr.add_zero'] at hw297_0)
            obtain rfl : ad293 = ad297 := (by injection e297)
            have qi297 : (0 < l3.length) = True := eq_true (by omega)
            (try rw [show ((0 : Int)).toNat = 0 from rfl] at hx297_0)
            (try rw [show 0 * 3 = 0 from rfl] at hx297_0)
            (try rw [Addr.add_zero'] at hx297_0)
            (try rw [show ((0 : Int)).toNat = 0 from rfl] at hx297_1)
            (try rw [show 0 * 3 = 0 from rfl] at hx297_1)
            (try rw [Addr.add_zero'] at hx297_1)
            (try rw [show ((0 : Int)).toNat = 0 from rfl] at hx297_2)
            (try rw [show 0 * 3 = 0 from rfl] at hx297_2)
            (try rw [Addr.add_zero'] at hx297_2)
            replace hx297_0 := (HB.out.cell (World.block_lt_of_cell? w _ hx297_0)).trans hx297_0
            replace hx297_1 := (HB.out.cell (World.block_lt_of_cell? w _ hx297_1)).trans hx297_1
            replace hx297_2 := (HB.out.cell (World.block_lt_of_cell? w _ hx297_2)).trans hx297_2
            replace p297 := eq_true p297
            replace q297 := eq_true q297
            have p298 : 0 ≤ (0 : Int) := (by omega)
            have q298 : 0 < (l4.length : Int) := of_decide_eq_true (by first | (with_reducible assumption) | assumption)
            obtain ⟨ad298, e298, hx298_0⟩ := Kd.at_string HR4.out 0 p298 q298
            have hw298_0 := hx298_0
            (try rw [show ((0 : Int)).toNat = 0 from rfl] at hw298_0)
            (try rw [show 0 * 1 = 0 from rfl] at hw298_0)
            (try rw [Addr.add_zero'] at hw298_0)
            obtain rfl : ad294 = ad298 := (by injection e298)
            have qi298 : (0 < l4.length) = True := eq_true (by omega)
            (try rw [show ((0 : Int)).toNat = 0 from rfl] at hx298_0)
            (try rw [Addr.add_zero'] at hx298_0)
            replace hx298_0 := (HB.out.cell (World.block_lt_of_cell? w _ hx298_0)).trans hx298_0
            replace p298 := eq_true p298
            replace q298 := eq_true q298
            refine start_ (n := 13) (S := fun w' => w'.cell? ad293 = some (.int .i64 ((rd_T43 l3 0).f0)) ∧ w'.cell? ⟨ad293.block, ad293.off + 1, none⟩ = some (.int .i64 ((rd_T43 l3 0).f1)) ∧ w'.cell? ⟨ad293.block, ad293.off + 2, none⟩ = some (.int .i64 ((rd_T43 l3 0).f2)) ∧ w'.cell? ad294 = some (.string (rdOf ByteArray.empty l4 0))) (ds := []) #[false, false, false, false, false, false, false, false, false, false, false, false, false] (by kernel_rfl) rfl rfl ⟨((HB.out.cell (World.block_lt_of_cell? w _ hw297_0)).trans hw297_0), ((HB.out.cell (World.block_lt_of_cell? w _ hw297_1)).trans hw297_1), ((HB.out.cell (World.block_lt_of_cell? w _ hw297_2)).trans hw297_2), ((HB.out.cell (World.block_lt_of_cell? w _ hw298_0)).trans hw298_0)⟩ (fun hHeld => ?_); refine with_tabW caulklaw19_SpanMerges.tab9 caulklaw19_SpanMerges.bits9 (fun HT_ HW_ => ?_)
            generalize w32.drew = w33 at HO_13 HO_15 HB hx297_0 hx297_1 hx297_2 hx298_0 hHeld ⊢
            refine pure_ (i := 0) (N := some 78) (v := ?_) (a' := ?_) #[true, false, false, false, false, false, false, false, false, false, false, false, false] rfl rfl (any_of HT_.out (by kernel_rfl)) (fun _ _ _ h => h) (Or.inl ⟨by rfl, ?_⟩) ?_ ?_
            rotate_left
            ·intro w'
             go_simp
             with_reducible rfl
            rotate_left
            ·simp only [Act.put, List.setIfInBounds_toArray, List.set_cons_zero, List.set_cons_succ, i64_w, i32_w]
             rfl
            refine pure_ (i := 1) (N := some 79) (v := ?_) (a' := ?_) #[true, true, false, false, false, false, false, false, false, false, false, false, false] rfl rfl (any_of HT_.out (by kernel_rfl)) (fun _ _ _ h => h) (Or.inl ⟨by rfl, ?_⟩) ?_ ?_
            rotate_left
            ·intro w'
             go_simp
             with_reducible rfl
            rotate_left
            ·simp only [Act.put, List.setIfInBounds_toArray, List.set_cons_zero, List.set_cons_succ, i64_w, i32_w]
             rfl
            refine pure_ (i := 2) (N := some 80) (v := ?_) (a' := ?_) #[true, true, true, false, false, false, false, false, false, false, false, false, false] rfl rfl (any_of HT_.out (by kernel_rfl)) (fun _ _ _ h => h) (Or.inl ⟨by rfl, ?_⟩) ?_ ?_
            rotate_left
            ·intro w'
             go_simp
             with_reducible rfl
            rotate_left
            ·simp only [Act.put, List.setIfInBounds_toArray, List.set_cons_zero, List.set_cons_succ, i64_w, i32_w]
             rfl
            refine pure_ (i := 4) (N := some 82) (v := ?_) (a' := ?_) #[true, true, true, false, true, false, false, false, false, false, false, false, false] rfl rfl (any_of HT_.out (by kernel_rfl)) (fun _ _ _ h => h) (Or.inl ⟨by rfl, ?_⟩) ?_ ?_
            rotate_left
            ·intro w'
             go_simp
             with_reducible rfl
            rotate_left
            ·simp only [Act.put, List.setIfInBounds_toArray, List.set_cons_zero, List.set_cons_succ, i64_w, i32_w]
             rfl
            refine pure_ (i := 5) (N := some 83) (v := ?_) (a' := ?_) #[true, true, true, false, true, true, false, false, false, false, false, false, false] rfl rfl (any_of HT_.out (by kernel_rfl)) (fun _ _ _ h => h) (Or.inl ⟨by rfl, ?_⟩) ?_ ?_
            rotate_left
            ·intro w'
             go_simp
             with_reducible rfl
            rotate_left
            ·simp only [Act.put, List.setIfInBounds_toArray, List.set_cons_zero, List.set_cons_succ, i64_w, i32_w]
             rfl
            refine take_ (i := 3) (N := some 81) (v := ?_) (a' := ?_) #[true, true, true, true, true, true, false, false, false, false, false, false, false] rfl rfl (take_ofW HT_.out HW_.out (by kernel_rfl)) (fun _ _ _ h => h) (Or.inl ⟨by rfl, ?_⟩) hHeld ?_ ?_
            rotate_left
            ·rintro w' ⟨s0, s1, s2, s3⟩
             go_simp
             with_reducible rfl
            rotate_left
            ·simp only [Act.put, List.setIfInBounds_toArray, List.set_cons_zero, List.set_cons_succ, i64_w, i32_w]
             rfl
            refine take_ (i := 6) (N := some 84) (v := ?_) (a' := ?_) #[true, true, true, true, true, true, true, false, false, false, false, false, false] rfl rfl (take_ofW HT_.out HW_.out (by kernel_rfl)) (fun _ _ _ h => h) (Or.inl ⟨by rfl, ?_⟩) hHeld ?_ ?_
            rotate_left
            ·rintro w' ⟨s0, s1, s2, s3⟩
             go_simp
             with_reducible rfl
            rotate_left
            ·simp only [Act.put, List.setIfInBounds_toArray, List.set_cons_zero, List.set_cons_succ, i64_w, i32_w]
             rfl
            refine one_ (i := 7) (N := some 85) #[true, true, true, true, true, true, true, true, false, false, false, false, false] rfl rfl (one_of HT_.out (by kernel_rfl)) (by decide) (fun K hK => ?_)
            refine goes_ Try.func18 (by kernel_rfl) rfl #[.string a5, .agg #[.int .i64 ((rd_T43 l3 0).f0), .int .i64 ((rd_T43 l3 0).f1), .int .i64 ((rd_T43 l3 0).f2)], .string (rdOf ByteArray.empty l4 0)] (by rfl) rfl rfl (by (try simp only [List.map_toArray, List.map_cons, List.map_nil]); first | done | rfl | (simp only [List.length_drop, List.length_take]; rfl)) ?_
            with_reducible refine (caulkref19_Over.calls a5 ((rd_T43 l3 0).f0) ((rd_T43 l3 0).f1) ((rd_T43 l3 0).f2) (rdOf ByteArray.empty l4 0) t299 t300 _ A28.out).mono ?_
            rintro e w34 ⟨rfl, hb⟩
            refine ⟨_, rfl, ?_⟩
            have n0_ := Aside0.mk (Kd.R_below (by (with_reducible repeat (first | apply Kd.R_alloc | apply Kd.R_drewN | apply Kd.R_drew)); exact HO_13.out) hb)
            have n1_ := Aside0.mk (Kd.R_below (by (with_reducible repeat (first | apply Kd.R_alloc | apply Kd.R_drewN | apply Kd.R_drew)); exact HO_15.out) hb)
            have n2_ := Aside0.mk (below_step (by repeat (first | (with_reducible first | exact HB.out | apply below_alloc | apply pw_below_drewN | apply below_drew1) | exact HB.out)) hb)
            clear HO_13
            clear HO_15
            clear HB
            have HO_13 := n0_
            have HO_15 := n1_
            have HB := n2_
            clear n0_ n1_ n2_
            (try clear hb)
            (try clear hb2)
            (try clear hk)
            (try clear hi)
            refine hK.out _ _ ⟨((HB.out.cell (World.block_lt_of_cell? w _ hw297_0)).trans hw297_0), ((HB.out.cell (World.block_lt_of_cell? w _ hw297_1)).trans hw297_1), ((HB.out.cell (World.block_lt_of_cell? w _ hw297_2)).trans hw297_2), ((HB.out.cell (World.block_lt_of_cell? w _ hw298_0)).trans hw298_0)⟩ (fun hHeld => ?_)
            clear hK K
            refine norm_ (a' := ?_) ?_ ?_
            rotate_left
            ·show Act.put _ (some 85) _ = _
             simp only [Act.put, List.setIfInBounds_toArray, List.set_cons_zero, List.set_cons_succ, i64_w, i32_w]
             rfl
            refine pure_ (i := 8) (N := some 77) (v := ?_) (a' := ?_) #[true, true, true, true, true, true, true, true, true, false, false, false, false] rfl rfl (any_of HT_.out (by kernel_rfl)) (fun _ _ _ h => h) (Or.inl ⟨by rfl, ?_⟩) ?_ ?_
            rotate_left
            ·intro w'
             go_simp
             with_reducible rfl
            rotate_left
            ·simp only [Act.put, List.setIfInBounds_toArray, List.set_cons_zero, List.set_cons_succ, i64_w, i32_w]
             rfl
            refine pure_ (i := 9) (N := some 86) (v := ?_) (a' := ?_) #[true, true, true, true, true, true, true, true, true, true, false, false, false] rfl rfl (any_of HT_.out (by kernel_rfl)) (fun _ _ _ h => h) (Or.inl ⟨by rfl, ?_⟩) ?_ ?_
            rotate_left
            ·intro w'
             go_simp
             with_reducible rfl
            rotate_left
            ·simp only [Act.put, List.setIfInBounds_toArray, List.set_cons_zero, List.set_cons_succ, i64_w, i32_w]
             rfl
            refine pure_ (i := 10) (N := some 87) (v := ?_) (a' := ?_) #[true, true, true, true, true, true, true, true, true, true, true, false, false] rfl rfl (any_of HT_.out (by kernel_rfl)) (fun _ _ _ h => h) (Or.inl ⟨by rfl, ?_⟩) ?_ ?_
            rotate_left
            ·intro w'
             go_simp
             with_reducible rfl
            rotate_left
            ·simp only [Act.put, List.setIfInBounds_toArray, List.set_cons_zero, List.set_cons_succ, i64_w, i32_w]
             rfl
            refine pure_ (i := 11) (N := some 23) (v := ?_) (a' := ?_) #[true, true, true, true, true, true, true, true, true, true, true, true, false] rfl rfl (any_of HT_.out (by kernel_rfl)) (fun _ _ _ h => h) (Or.inl ⟨by rfl, ?_⟩) ?_ ?_
            rotate_left
            ·intro w'
             go_simp
             with_reducible rfl
            rotate_left
            ·simp only [Act.put, List.setIfInBounds_toArray, List.set_cons_zero, List.set_cons_succ, i64_w, i32_w]
             rfl
            refine pure_ (i := 12) (N := some 24) (v := ?_) (a' := ?_) #[true, true, true, true, true, true, true, true, true, true, true, true, true] rfl rfl (any_of HT_.out (by kernel_rfl)) (fun _ _ _ h => h) (Or.inl ⟨by rfl, ?_⟩) ?_ ?_
            rotate_left
            ·intro w'
             go_simp
             with_reducible rfl
            rotate_left
            ·simp only [Act.put, List.setIfInBounds_toArray, List.set_cons_zero, List.set_cons_succ, i64_w, i32_w]
             rfl
            refine done_ (done_of HT_.out (by kernel_rfl)) ?_
            try go_wp2
            go_meet
            case rel => exact ⟨_, H', ⟨by have := HJ6.out; have := HJ16.out; first | omega | exact Nat.le_refl _⟩, ⟨by (with_reducible repeat (first | apply Kd.R_alloc | apply Kd.R_drewN | apply Kd.R_drew)); exact HO_13.out⟩, ⟨by (with_reducible repeat (first | apply Kd.R_alloc | apply Kd.R_drewN | apply Kd.R_drew)); exact HO_15.out⟩, ⟨by repeat (first | (with_reducible first | exact HB.out | apply below_alloc | apply pw_below_drewN | apply below_drew1) | exact HB.out)⟩⟩
           ·rw [if_neg c30] at H
            have c30b0 : (t296 == t300) = false := beq_eq_false_iff_ne.mpr c30
            have c30b1 : (t296 != t300) = true := bne_iff_ne.mpr c30
            exact absurd ((Option.some.inj H).trans hrt.out) (by simp)
          ·rw [if_neg c29] at H
           have c29b0 : (t295.toList == t299.toList) = false := beq_eq_false_iff_ne.mpr c29
           have c29b1 : (t295.toList != t299.toList) = true := bne_iff_ne.mpr c29
           exact absurd ((Option.some.inj H).trans hrt.out) (by simp)
         ·rw [if_neg c26] at H
          exact absurd H (by simp)
        ·rw [if_neg c25] at H
         exact absurd H (by simp)
       ·replace c24 := Bool.eq_false_iff.mpr c24
        subst c24
        have H1 : (caulklaw19_SpanMerges.j2 kj16 l0 t281 t282 t285 t286 t289 t290 t291 t292) = some r := by rw [if_neg (show ¬ (false = true) by decide)] at H; exact H
        clear H
        have H := H1
        clear H1
        have H' := Aside0.mk H
        clear H
        go_wp2
        go_meet
        case rel => exact ⟨_, H', ⟨by have := HJ6.out; have := HJ16.out; first | omega | exact Nat.le_refl _⟩, ⟨by (with_reducible repeat (first | apply Kd.R_alloc | apply Kd.R_drewN | apply Kd.R_drew)); exact HO_13.out⟩, ⟨by (with_reducible repeat (first | apply Kd.R_alloc | apply Kd.R_drewN | apply Kd.R_drew)); exact HO_15.out⟩, ⟨by repeat (first | (with_reducible first | exact HB.out | apply below_alloc | apply pw_below_drewN | apply below_drew1) | exact HB.out)⟩⟩
      case rest =>
       clear HC23
       try clear c1
       try clear c2
       try clear p2
       try clear q2
       try clear hx2
       try clear qi2
       try clear c3
       try clear c4
       try clear c6
       try clear c9
       try clear c10
       try clear c12
       try clear c13
       try clear c14
       try clear c15
       try clear c16
       try clear c17
       try clear c18
       try clear c22
       try clear c22b0
       try clear c22b1
       try clear c24
       try clear c25
       try clear c25b0
       try clear c25b1
       try clear c26
       try clear c26b0
       try clear c26b1
       try clear c29
       try clear c29b0
       try clear c29b1
       try clear p29
       try clear q29
       try clear hx29
       try clear qi29
       try clear c30
       try clear c30b0
       try clear c30b1
       try clear hx293_0
       try clear hx293_1
       try clear hx293_2
       try clear hx294_0
       try clear hx297_0
       try clear hx297_1
       try clear hx297_2
       try clear hx298_0
       try clear p2
       try clear p293
       try clear p294
       try clear p297
       try clear p298
       try clear q293
       try clear q294
       try clear q297
       try clear q298
       obtain ⟨kq, HA, HJ22, HO_13, HO_15, HB⟩ := hcut
       cases kq with
       | zero => exact absurd HA.out (by simp [caulklaw19_SpanMerges.j2])
       | succ kj22 =>
        have H := HA.out
        clear HA
        simp only [caulklaw19_SpanMerges.j2] at H
        replace H := Option.bind_eq_some_iff.mp H
        obtain ⟨t301, A350, H⟩ := H
        replace H : (if t301 = true then ((span_Merge.f kj22 l0).bind fun t302 => ((caulkref19_Merge.f kj22 l0).bind fun t305 => ((caulkref19_SameRanges.f kj22 t302 t305).bind fun t308 => (if t308 = true then ((caulkref05_Same.f kj22 t281 t285).bind fun t309 => (if t309 = true then (if t282 = t286 then (if t289.toList = t291.toList then (some (t290 == t292)) else (some false)) else (some false)) else (some false))) else (some false))))) else (some false)) = some r := H
        have A35 := Aside0.mk A350
        clear A350
        by_cases c36 : t301 = true
        ·subst c36
         have H1 : ((span_Merge.f kj22 l0).bind fun t302 => ((caulkref19_Merge.f kj22 l0).bind fun t305 => ((caulkref19_SameRanges.f kj22 t302 t305).bind fun t308 => (if t308 = true then ((caulkref05_Same.f kj22 t281 t285).bind fun t309 => (if t309 = true then (if t282 = t286 then (if t289.toList = t291.toList then (some (t290 == t292)) else (some false)) else (some false)) else (some false))) else (some false))))) = some r := by rw [if_pos rfl] at H; exact H
         clear H
         have H := H1
         clear H1
         replace H := Option.bind_eq_some_iff.mp H
         obtain ⟨t302, A370, H⟩ := H
         replace H : ((caulkref19_Merge.f kj22 l0).bind fun t305 => ((caulkref19_SameRanges.f kj22 t302 t305).bind fun t308 => (if t308 = true then ((caulkref05_Same.f kj22 t281 t285).bind fun t309 => (if t309 = true then (if t282 = t286 then (if t289.toList = t291.toList then (some (t290 == t292)) else (some false)) else (some false)) else (some false))) else (some false)))) = some r := H
         have A37 := Aside0.mk A370
         clear A370
         replace H := Option.bind_eq_some_iff.mp H
         obtain ⟨t305, A380, H⟩ := H
         replace H : ((caulkref19_SameRanges.f kj22 t302 t305).bind fun t308 => (if t308 = true then ((caulkref05_Same.f kj22 t281 t285).bind fun t309 => (if t309 = true then (if t282 = t286 then (if t289.toList = t291.toList then (some (t290 == t292)) else (some false)) else (some false)) else (some false))) else (some false))) = some r := H
         have A38 := Aside0.mk A380
         clear A380
         replace H := Option.bind_eq_some_iff.mp H
         obtain ⟨t308, A390, H⟩ := H
         replace H : (if t308 = true then ((caulkref05_Same.f kj22 t281 t285).bind fun t309 => (if t309 = true then (if t282 = t286 then (if t289.toList = t291.toList then (some (t290 == t292)) else (some false)) else (some false)) else (some false))) else (some false)) = some r := H
         have A39 := Aside0.mk A390
         clear A390
         by_cases c40 : t308 = true
         ·subst c40
          have H1 : ((caulkref05_Same.f kj22 t281 t285).bind fun t309 => (if t309 = true then (if t282 = t286 then (if t289.toList = t291.toList then (some (t290 == t292)) else (some false)) else (some false)) else (some false))) = some r := by rw [if_pos rfl] at H; exact H
          clear H
          have H := H1
          clear H1
          replace H := Option.bind_eq_some_iff.mp H
          obtain ⟨t309, A410, H⟩ := H
          replace H : (if t309 = true then (if t282 = t286 then (if t289.toList = t291.toList then (some (t290 == t292)) else (some false)) else (some false)) else (some false)) = some r := H
          have A41 := Aside0.mk A410
          clear A410
          by_cases c42 : t309 = true
          ·subst c42
           have H1 : (if t282 = t286 then (if t289.toList = t291.toList then (some (t290 == t292)) else (some false)) else (some false)) = some r := by rw [if_pos rfl] at H; exact H
           clear H
           have H := H1
           clear H1
           by_cases c43 : t282 = t286
           ·rw [if_pos c43] at H
            have c43b0 : (t282 == t286) = true := beq_iff_eq.mpr c43
            have c43b1 : (t282 != t286) = false := bne_eq_false_iff_eq.mpr c43
            clear c43
            by_cases c44 : t289.toList = t291.toList
            ·rw [if_pos c44] at H
             have c44b0 : (t289.toList == t291.toList) = true := beq_iff_eq.mpr c44
             have c44b1 : (t289.toList != t291.toList) = false := bne_eq_false_iff_eq.mpr c44
             clear c44
             obtain rfl := Option.some.inj H
             go_wp2_with (first | ((with_reducible refine HOpen.gate_append ?_); simp only [List.cons_append, List.nil_append]) | ((with_reducible refine gate_callee (f := 6) rfl ?_); refine goesL_ (some 96) rfl rfl Try.func6 (by kernel_rfl) rfl #[] rfl (by (try simp only [List.map_toArray, List.map_cons, List.map_nil]); first | done | rfl | (simp only [List.length_drop, List.length_take]; rfl)) ?_; (with_reducible refine (caulklaw19_lives.calls  true _ A35.out).mono ?_); rintro e w45 ⟨rfl, hb⟩; refine ⟨_, rfl, ?_⟩; have n0_ := Aside0.mk (Kd.R_below (by (with_reducible repeat (first | apply Kd.R_alloc | apply Kd.R_drewN | apply Kd.R_drew)); exact HO_13.out) hb); have n1_ := Aside0.mk (Kd.R_below (by (with_reducible repeat (first | apply Kd.R_alloc | apply Kd.R_drewN | apply Kd.R_drew)); exact HO_15.out) hb); have n2_ := Aside0.mk (below_step (by repeat (first | (with_reducible first | exact HB.out | apply below_alloc | apply pw_below_drewN | apply below_drew1) | exact HB.out)) hb); clear HO_13; clear HO_15; clear HB; have HO_13 := n0_; have HO_15 := n1_; have HB := n2_; clear n0_ n1_ n2_; (try clear hb); (try clear hb2); (try clear hk); (try clear hi)) | ((with_reducible refine gate_callee (f := 20) rfl ?_); (try (refine gate_guard (by rfl) ?_; dsimp only)); refine goesL_ (some 99) rfl rfl Try.func20 (by kernel_rfl) rfl #[.slice A0 l0.length c0] rfl (by (try simp only [List.map_toArray, List.map_cons, List.map_nil]); first | done | rfl | (simp only [List.length_drop, List.length_take]; rfl)) ?_; (with_reducible refine (span_Merge.calls kj22 _ _ l0 t302 _ ?side1 ?side2 A37.out).mono ?_); (case side1 => repeat (first | exact (Kd.C_below HR0.out HB.out) | (with_reducible refine Kd.C_alloc ?_ _) | (with_reducible refine Kd.C_drewN ?_ _) | (with_reducible refine Kd.C_drew ?_))); (case side2 => exact HC0.out); rintro e w46 ⟨v303, rfl, ho0, hb⟩; refine ⟨_, rfl, ?_⟩; have n0_ := Aside0.mk (Kd.R_below (by (with_reducible repeat (first | apply Kd.R_alloc | apply Kd.R_drewN | apply Kd.R_drew)); exact HO_13.out) hb); have n1_ := Aside0.mk (Kd.R_below (by (with_reducible repeat (first | apply Kd.R_alloc | apply Kd.R_drewN | apply Kd.R_drew)); exact HO_15.out) hb); have n2_ := Aside0.mk (Kd.R_lower ho0 (below_size (by repeat (first | (with_reducible first | exact HB.out | apply below_alloc | apply pw_below_drewN | apply below_drew1) | exact HB.out)))); have n3_ := Aside0.mk (below_step (by repeat (first | (with_reducible first | exact HB.out | apply below_alloc | apply pw_below_drewN | apply below_drew1) | exact HB.out)) hb); clear HO_13; clear HO_15; clear HB; have HO_13 := n0_; have HO_15 := n1_; have HO304 := n2_; have HB := n3_; clear n0_ n1_ n2_ n3_; (try clear hb); (try clear hb2); (try clear hk); (try clear hi); (try clear ho0)) | ((with_reducible refine gate_callee (f := 21) rfl ?_); (try (refine gate_guard (by rfl) ?_; dsimp only)); refine goesL_ (some 101) rfl rfl Try.func21 (by kernel_rfl) rfl #[.slice A0 l0.length c0] rfl (by (try simp only [List.map_toArray, List.map_cons, List.map_nil]); first | done | rfl | (simp only [List.length_drop, List.length_take]; rfl)) ?_; (with_reducible refine (caulkref19_Merge.calls kj22 _ _ l0 t305 _ ?side1 ?side2 A38.out).mono ?_); (case side1 => repeat (first | exact (Kd.C_below HR0.out HB.out) | (with_reducible refine Kd.C_alloc ?_ _) | (with_reducible refine Kd.C_drewN ?_ _) | (with_reducible refine Kd.C_drew ?_))); (case side2 => exact HC0.out); rintro e w47 ⟨v306, rfl, ho0, hb⟩; refine ⟨_, rfl, ?_⟩; have n0_ := Aside0.mk (Kd.R_below (by (with_reducible repeat (first | apply Kd.R_alloc | apply Kd.R_drewN | apply Kd.R_drew)); exact HO_13.out) hb); have n1_ := Aside0.mk (Kd.R_below (by (with_reducible repeat (first | apply Kd.R_alloc | apply Kd.R_drewN | apply Kd.R_drew)); exact HO_15.out) hb); have n2_ := Aside0.mk (Kd.R_elder' (by (with_reducible repeat (first | apply Kd.R_alloc | apply Kd.R_drewN | apply Kd.R_drew)); exact HO304.out) (Kd.R_base ho0) hb); have n3_ := Aside0.mk (Kd.R_lower (Kd.R_new' ho0 (Kd.R_lt (by (with_reducible repeat (first | apply Kd.R_alloc | apply Kd.R_drewN | apply Kd.R_drew)); exact HO304.out))) (below_size (by repeat (first | (with_reducible first | exact HB.out | apply below_alloc | apply pw_below_drewN | apply below_drew1) | exact HB.out)))); have n4_ := Aside0.mk (below_step (by repeat (first | (with_reducible first | exact HB.out | apply below_alloc | apply pw_below_drewN | apply below_drew1) | exact HB.out)) hb); clear HO_13; clear HO_15; clear HO304; clear HB; have HO_13 := n0_; have HO_15 := n1_; have HO304 := n2_; have HO307 := n3_; have HB := n4_; clear n0_ n1_ n2_ n3_ n4_; (try clear hb); (try clear hb2); (try clear hk); (try clear hi); (try clear ho0); obtain ⟨Ao48, co48, eo48⟩ := Kd.R_slice HO304.out; subst eo48; obtain ⟨Ao49, co49, eo49⟩ := Kd.R_slice HO307.out; subst eo49) | ((with_reducible refine gate_callee (f := 19) rfl ?_); (try (refine gate_guard (by rfl) ?_; dsimp only)); refine goesL_ (some 102) rfl rfl Try.func19 (by kernel_rfl) rfl #[.slice Ao48 t302.length co48, .slice Ao49 t305.length co49] rfl (by (try simp only [List.map_toArray, List.map_cons, List.map_nil]); first | done | rfl | (simp only [List.length_drop, List.length_take]; rfl)) ?_; (with_reducible refine (caulkref19_SameRanges.calls kj22 _ _ t302 _ _ t305 true _ ?side1 ?side2 ?side3 ?side4 A39.out).mono ?_); (case side1 => repeat (first | exact (Kd.R_reads' HO304.out).2.2 | (with_reducible refine Kd.C_alloc ?_ _) | (with_reducible refine Kd.C_drewN ?_ _) | (with_reducible refine Kd.C_drew ?_))); (case side2 => exact (Kd.R_reads' HO304.out).2.1); (case side3 => repeat (first | exact (Kd.R_reads' HO307.out).2.2 | (with_reducible refine Kd.C_alloc ?_ _) | (with_reducible refine Kd.C_drewN ?_ _) | (with_reducible refine Kd.C_drew ?_))); (case side4 => exact (Kd.R_reads' HO307.out).2.1); rintro e w' ⟨rfl, ⟨nd, rfl⟩⟩; refine ⟨_, rfl, ?_⟩; obtain ⟨Ao50, co50, eo50⟩ := Kd.R_slice HO_13.out; subst eo50; obtain ⟨Ao51, co51, eo51⟩ := Kd.R_slice HO_15.out; subst eo51) | ((with_reducible refine gate_callee (f := 22) rfl ?_); (try (refine gate_guard (by rfl) ?_; dsimp only)); refine goesL_ (some 107) rfl rfl Try.func22 (by kernel_rfl) rfl #[.slice Ao50 t281.length co50, .slice Ao51 t285.length co51] rfl (by (try simp only [List.map_toArray, List.map_cons, List.map_nil]); first | done | rfl | (simp only [List.length_drop, List.length_take]; rfl)) ?_; (with_reducible refine (caulkref05_Same.calls kj22 _ _ t281 _ _ t285 true _ ?side1 ?side2 ?side3 ?side4 A41.out).mono ?_); (case side1 => repeat (first | exact (Kd.R_reads' HO_13.out).2.2 | (with_reducible refine Kd.C_alloc ?_ _) | (with_reducible refine Kd.C_drewN ?_ _) | (with_reducible refine Kd.C_drew ?_))); (case side2 => exact (Kd.R_reads' HO_13.out).2.1); (case side3 => repeat (first | exact (Kd.R_reads' HO_15.out).2.2 | (with_reducible refine Kd.C_alloc ?_ _) | (with_reducible refine Kd.C_drewN ?_ _) | (with_reducible refine Kd.C_drew ?_))); (case side4 => exact (Kd.R_reads' HO_15.out).2.1); rintro e w' ⟨rfl, ⟨nd, rfl⟩⟩; refine ⟨_, rfl, ?_⟩))
             go_ret
             exact ⟨by first | rfl | (simp [errW_none, errW_some] <;> rfl) | (simp [*, errW_none, errW_some] <;> rfl), by repeat (first | (with_reducible first | exact HB.out | apply below_alloc | apply pw_below_drewN | apply below_drew1) | exact HB.out)⟩
            ·rw [if_neg c44] at H
             have c44b0 : (t289.toList == t291.toList) = false := beq_eq_false_iff_ne.mpr c44
             have c44b1 : (t289.toList != t291.toList) = true := bne_iff_ne.mpr c44
             exact absurd ((Option.some.inj H).trans hrt.out) (by simp)
           ·rw [if_neg c43] at H
            have c43b0 : (t282 == t286) = false := beq_eq_false_iff_ne.mpr c43
            have c43b1 : (t282 != t286) = true := bne_iff_ne.mpr c43
            exact absurd ((Option.some.inj H).trans hrt.out) (by simp)
          ·replace c42 := Bool.eq_false_iff.mpr c42
           subst c42
           have H1 : (some false) = some r := by rw [if_neg (show ¬ (false = true) by decide)] at H; exact H
           clear H
           have H := H1
           clear H1
           exact absurd ((Option.some.inj H).trans hrt.out) (by simp)
         ·replace c40 := Bool.eq_false_iff.mpr c40
          subst c40
          have H1 : (some false) = some r := by rw [if_neg (show ¬ (false = true) by decide)] at H; exact H
          clear H
          have H := H1
          clear H1
          exact absurd ((Option.some.inj H).trans hrt.out) (by simp)
        ·replace c36 := Bool.eq_false_iff.mpr c36
         subst c36
         have H1 : (some false) = some r := by rw [if_neg (show ¬ (false = true) by decide)] at H; exact H
         clear H
         have H := H1
         clear H1
         exact absurd ((Option.some.inj H).trans hrt.out) (by simp)

def caulklaw19_SpanMerges.Pure : Prop := ∀ (l0 : List Int) (l1 : List (S28)) (a2 : Int) (l3 : List (S43)) (l4 : List ByteArray) (a5 : ByteArray), (l0.length ≤ maxLen ∧ l0.length * 8 ≤ 140737488351232 ∧ ∀ z0 ∈ l0, (Lit.int .i64 z0).wf = true) → (l1.length ≤ maxLen ∧ l1.length * 16 ≤ 140737488351232 ∧ ∀ z0 ∈ l1, wf28 z0) → (Lit.int .i64 a2).wf = true → (l3.length ≤ maxLen ∧ l3.length * 24 ≤ 140737488351232 ∧ ∀ z0 ∈ l3, wf43 z0) → (l4.length ≤ maxLen ∧ l4.length * 16 ≤ 140737488351232 ∧ ∀ z0 ∈ l4, z0.size ≤ 140737488351232) → a5.size ≤ 140737488351232 → ∃ k, caulklaw19_SpanMerges.f k l0 l1 a2 l3 l4 a5 = some true
theorem caulklaw19_SpanMerges.walk (P : caulklaw19_SpanMerges.Pure) (A0 : Option Addr) (c0 : Nat) (l0 : List Int) (A1 : Option Addr) (c1 : Nat) (l1 : List (S28)) (a2 : Int) (A3 : Option Addr) (c3 : Nat) (l3 : List (S43)) (A4 : Option Addr) (c4 : Nat) (l4 : List ByteArray) (a5 : ByteArray) (w : World) (hr0 : Kd.C (Kd.int .i64) w A0 l0.length l0) (hc0 : l0.length ≤ c0) (hr1 : Kd.C k28 w A1 l1.length l1) (hc1 : l1.length ≤ c1) (hr3 : Kd.C k43 w A3 l3.length l3) (hc3 : l3.length ≤ c3) (hr4 : Kd.C Kd.string w A4 l4.length l4) (hc4 : l4.length ≤ c4) (hw0 : (l0.length ≤ maxLen ∧ l0.length * 8 ≤ 140737488351232 ∧ ∀ z0 ∈ l0, (Lit.int .i64 z0).wf = true)) (hw1 : (l1.length ≤ maxLen ∧ l1.length * 16 ≤ 140737488351232 ∧ ∀ z0 ∈ l1, wf28 z0)) (hw2 : (Lit.int .i64 a2).wf = true) (hw3 : (l3.length ≤ maxLen ∧ l3.length * 24 ≤ 140737488351232 ∧ ∀ z0 ∈ l3, wf43 z0)) (hw4 : (l4.length ≤ maxLen ∧ l4.length * 16 ≤ 140737488351232 ∧ ∀ z0 ∈ l4, z0.size ≤ 140737488351232)) (hw5 : a5.size ≤ 140737488351232) :
  Calls Try.prog 4 #[.slice A0 l0.length c0, .slice A1 l1.length c1, .int .i64 a2, .slice A3 l3.length c3, .slice A4 l4.length c4, .string a5] w fun e w' => e = .returned (.bool true) ∧ Below w.heap.size w w' := by
 obtain ⟨k, h⟩ := P l0 l1 a2 l3 l4 a5 hw0 hw1 hw2 hw3 hw4 hw5
 refine (caulklaw19_SpanMerges.calls k A0 c0 l0 A1 c1 l1 a2 A3 c3 l3 A4 c4 l4 a5 true w hr0 hc0 hr1 hc1 hr3 hc3 hr4 hc4 ⟨rfl⟩ h).mono ?_
 rintro e w' ⟨rfl, hd⟩
 exact ⟨rfl, hd⟩

end Go.Proofs.Ytepbhlngcaiklaa.HSpan
