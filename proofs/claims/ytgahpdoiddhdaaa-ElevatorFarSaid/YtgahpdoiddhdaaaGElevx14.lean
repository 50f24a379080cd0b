/- WRITTEN BY wip/hyb.py, a program of this workplace (out of the kit's printer and this workplace's own contracts). -/
import Derived.Test.YtgahpdoiddhdaaaGElevx0
import Derived.Test.YtgahpdoiddhdaaaGElevx3
import Derived.Test.YtgahpdoiddhdaaaGElevx7
import Derived.Test.YtgahpdoiddhdaaaGElevx8
import Derived.Test.YtgahpdoiddhdaaaGElevx9
namespace Go.Proofs.Ytgahpdoiddhdaaa.HElev
open Go.RowKit Go.Proofs.YtgahpdoiddhdaaaW.PrintWords Go.Proofs.YtgahpdoiddhdaaaW.PrintLast Go.Proofs.YtgahpdoiddhdaaaW.PrintMore
attribute [local go_sem] max2_int min2_int max_two min_two max_three min_three max_four min_four   -- for this text's walks alone
set_option linter.unusedVariables false
set_option linter.unusedSimpArgs false

mutual
def caulklaw40_ElevatorFar.j0 : Nat → Int → List (S37) → Bool → Option (Bool)
 | 0, _, _, _ => none
 | k + 1, x0, x1, x30 => if x30 = true then (some true) else (caulklaw40_ElevatorFar.l0 k x0 x1 x1 (x1.length : Int) 0)
def caulklaw40_ElevatorFar.l0 : Nat → Int → List (S37) → List (S37) → Int → Int → Option (Bool)
 | 0, _, _, _, _, _ => none
 | k + 1, x0, x1, x31, x32, x33 => if x33 < x32 then (if 0 ≤ x33 then (if x33 < (x31.length : Int) then (if x33 ≤ (x1.length : Int) then ((some (x1.take (x33 : Int).toNat : List (S37))).bind fun y7326 => (caulklaw40_ElevatorFar.l1 k x0 x1 x31 x32 x33 y7326 (y7326.length : Int) 0 ((rd_T37 x31 x33).f0) ((rd_T37 x31 x33).f1) ((rd_T37 x31 x33).f2))) else (none)) else (none)) else (none)) else ((elevator_Order.f k x0 x1).bind fun bt7332 => (if bt7332.2 = 0 then ((elevator_Way.f k x0 bt7332.1).bind fun bt7336 => ((elevator_Runs.f k bt7332.1).bind fun bt7338 => (caulklaw40_ElevatorFar.l2 k x1 bt7336.1 bt7336.2 bt7338.1 bt7338.2 0 0 x1 (x1.length : Int) 0))) else (some (bt7332.2 == 1))))
def caulklaw40_ElevatorFar.l1 : Nat → Int → List (S37) → List (S37) → Int → Int → List (S37) → Int → Int → Int → Int → Int → Option (Bool)
 | 0, _, _, _, _, _, _, _, _, _, _, _ => none
 | k + 1, x0, x1, x31, x32, x33, x40, x41, x42, x7326000, x7326001, x7326002 => if x42 < x41 then (if 0 ≤ x42 then (if x42 < (x40.length : Int) then (if x7326000 < (wrap64 (((rd_T37 x40 x42).f0) + ((rd_T37 x40 x42).f1))) then (if ((rd_T37 x40 x42).f0) < (wrap64 (x7326000 + x7326001)) then (some true) else (caulklaw40_ElevatorFar.l1 k x0 x1 x31 x32 x33 x40 x41 (wrap64 (x42 + 1)) x7326000 x7326001 x7326002)) else (caulklaw40_ElevatorFar.l1 k x0 x1 x31 x32 x33 x40 x41 (wrap64 (x42 + 1)) x7326000 x7326001 x7326002)) else (none)) else (none)) else (caulklaw40_ElevatorFar.l0 k x0 x1 x31 x32 (wrap64 (x33 + 1)))
def caulklaw40_ElevatorFar.l2 : Nat → List (S37) → Int → Int → List (S39) → Int → Int → Int → List (S37) → Int → Int → Option (Bool)
 | 0, _, _, _, _, _, _, _, _, _, _ => none
 | k + 1, x1, x11, x12, x13, x14, x15, x16, x87, x88, x89 => if x89 < x88 then (if 0 ≤ x89 then (if x89 < (x87.length : Int) then (caulklaw40_ElevatorFar.l2 k x1 x11 x12 x13 x14 (wrap64 (x15 + ((rd_T37 x87 x89).f1))) x16 x87 x88 (wrap64 (x89 + 1))) else (none)) else (none)) else (caulklaw40_ElevatorFar.l3 k x1 x11 x12 x13 x14 x15 x16 x13 (x13.length : Int) 0)
def caulklaw40_ElevatorFar.l3 : Nat → List (S37) → Int → Int → List (S39) → Int → Int → Int → List (S39) → Int → Int → Option (Bool)
 | 0, _, _, _, _, _, _, _, _, _, _ => none
 | k + 1, x1, x11, x12, x13, x14, x15, x16, x98, x99, x100 => if x100 < x99 then (if 0 ≤ x100 then (if x100 < (x98.length : Int) then (caulklaw40_ElevatorFar.l3 k x1 x11 x12 x13 x14 x15 (wrap64 (x16 + (wrap64 (((rd_T39 x98 x100).f1) - ((rd_T39 x98 x100).f0))))) x98 x99 (wrap64 (x100 + 1))) else (none)) else (none)) else (if x12 = 0 then (if x11 ≤ 12288 then (if x14 = 0 then (if x16 = x15 then (if (x13.length : Int) ≤ (x1.length : Int) then (some (decide (x11 ≥ x15))) else (some false)) else (some false)) else (some false)) else (some false)) else (some false))
end
def caulklaw40_ElevatorFar.f (k : Nat) (a0 : Int) (l1 : List (S37)) : Option (Bool) := (caulklaw40_lives.f).bind fun t7322 => (if t7322 = true then (if (l1.length : Int) > 60 then (caulklaw40_ElevatorFar.j0 k a0 l1 true) else ((elevator_Check.f k l1).bind fun t7323 => (caulklaw40_ElevatorFar.j0 k a0 l1 (t7323 != 0)))) else (some false))
theorem caulklaw40_ElevatorFar.mono_l : ∀ k, (∀ y0 y1 y2, LeO (caulklaw40_ElevatorFar.j0 k y0 y1 y2) (caulklaw40_ElevatorFar.j0 (k + 1) y0 y1 y2)) ∧ (∀ y0 y1 y2 y3 y4, LeO (caulklaw40_ElevatorFar.l0 k y0 y1 y2 y3 y4) (caulklaw40_ElevatorFar.l0 (k + 1) y0 y1 y2 y3 y4)) ∧ (∀ y0 y1 y2 y3 y4 y5 y6 y7 y8 y9 y10, LeO (caulklaw40_ElevatorFar.l1 k y0 y1 y2 y3 y4 y5 y6 y7 y8 y9 y10) (caulklaw40_ElevatorFar.l1 (k + 1) y0 y1 y2 y3 y4 y5 y6 y7 y8 y9 y10)) ∧ (∀ y0 y1 y2 y3 y4 y5 y6 y7 y8 y9, LeO (caulklaw40_ElevatorFar.l2 k y0 y1 y2 y3 y4 y5 y6 y7 y8 y9) (caulklaw40_ElevatorFar.l2 (k + 1) y0 y1 y2 y3 y4 y5 y6 y7 y8 y9)) ∧ (∀ y0 y1 y2 y3 y4 y5 y6 y7 y8 y9, LeO (caulklaw40_ElevatorFar.l3 k y0 y1 y2 y3 y4 y5 y6 y7 y8 y9) (caulklaw40_ElevatorFar.l3 (k + 1) y0 y1 y2 y3 y4 y5 y6 y7 y8 y9))
 | 0 => ⟨fun _ _ _ r h => by simp [caulklaw40_ElevatorFar.j0] at h, fun _ _ _ _ _ r h => by simp [caulklaw40_ElevatorFar.l0] at h, fun _ _ _ _ _ _ _ _ _ _ _ r h => by simp [caulklaw40_ElevatorFar.l1] at h, fun _ _ _ _ _ _ _ _ _ _ r h => by simp [caulklaw40_ElevatorFar.l2] at h, fun _ _ _ _ _ _ _ _ _ _ r h => by simp [caulklaw40_ElevatorFar.l3] at h⟩
 | k + 1 => by
  obtain ⟨ih0, ih1, ih2, ih3, ih4⟩ := caulklaw40_ElevatorFar.mono_l k
  refine ⟨?_, ?_, ?_, ?_, ?_⟩
  ·intro y0 y1 y2
   unfold caulklaw40_ElevatorFar.j0
   repeat' first
   | (with_reducible exact ih0 _ _ _)
   | (with_reducible exact ih1 _ _ _ _ _)
   | (with_reducible exact ih2 _ _ _ _ _ _ _ _ _ _ _)
   | (with_reducible exact ih3 _ _ _ _ _ _ _ _ _ _)
   | (with_reducible exact ih4 _ _ _ _ _ _ _ _ _ _)
   | (with_reducible exact elevator_Check.mono _ _)
   | (with_reducible exact elevator_Order.mono _ _ _)
   | (with_reducible exact elevator_Runs.mono _ _)
   | (with_reducible exact elevator_Way.mono _ _ _)
   | (with_reducible exact LeO.refl _)
   | (with_reducible exact LeO.none _)
   | (with_reducible refine LeO.ite ?_ ?_)
   | (with_reducible refine LeO.bind ?_ (fun _ => ?_))
   | exact ih0 _ _ _
   | exact ih1 _ _ _ _ _
   | exact ih2 _ _ _ _ _ _ _ _ _ _ _
   | exact ih3 _ _ _ _ _ _ _ _ _ _
   | exact ih4 _ _ _ _ _ _ _ _ _ _
   | exact elevator_Check.mono _ _
   | exact elevator_Order.mono _ _ _
   | exact elevator_Runs.mono _ _
   | exact elevator_Way.mono _ _ _
   | exact LeO.none _
   | refine LeO.ite ?_ ?_
   | refine LeO.bind ?_ (fun _ => ?_)
  ·intro y0 y1 y2 y3 y4
   unfold caulklaw40_ElevatorFar.l0
   repeat' first
   | (with_reducible exact ih0 _ _ _)
   | (with_reducible exact ih1 _ _ _ _ _)
   | (with_reducible exact ih2 _ _ _ _ _ _ _ _ _ _ _)
   | (with_reducible exact ih3 _ _ _ _ _ _ _ _ _ _)
   | (with_reducible exact ih4 _ _ _ _ _ _ _ _ _ _)
   | (with_reducible exact elevator_Check.mono _ _)
   | (with_reducible exact elevator_Order.mono _ _ _)
   | (with_reducible exact elevator_Runs.mono _ _)
   | (with_reducible exact elevator_Way.mono _ _ _)
   | (with_reducible exact LeO.refl _)
   | (with_reducible exact LeO.none _)
   | (with_reducible refine LeO.ite ?_ ?_)
   | (with_reducible refine LeO.bind ?_ (fun _ => ?_))
   | exact ih0 _ _ _
   | exact ih1 _ _ _ _ _
   | exact ih2 _ _ _ _ _ _ _ _ _ _ _
   | exact ih3 _ _ _ _ _ _ _ _ _ _
   | exact ih4 _ _ _ _ _ _ _ _ _ _
   | exact elevator_Check.mono _ _
   | exact elevator_Order.mono _ _ _
   | exact elevator_Runs.mono _ _
   | exact elevator_Way.mono _ _ _
   | exact LeO.none _
   | refine LeO.ite ?_ ?_
   | refine LeO.bind ?_ (fun _ => ?_)
  ·intro y0 y1 y2 y3 y4 y5 y6 y7 y8 y9 y10
   unfold caulklaw40_ElevatorFar.l1
   repeat' first
   | (with_reducible exact ih0 _ _ _)
   | (with_reducible exact ih1 _ _ _ _ _)
   | (with_reducible exact ih2 _ _ _ _ _ _ _ _ _ _ _)
   | (with_reducible exact ih3 _ _ _ _ _ _ _ _ _ _)
   | (with_reducible exact ih4 _ _ _ _ _ _ _ _ _ _)
   | (with_reducible exact elevator_Check.mono _ _)
   | (with_reducible exact elevator_Order.mono _ _ _)
   | (with_reducible exact elevator_Runs.mono _ _)
   | (with_reducible exact elevator_Way.mono _ _ _)
   | (with_reducible exact LeO.refl _)
   | (with_reducible exact LeO.none _)
   | (with_reducible refine LeO.ite ?_ ?_)
   | (with_reducible refine LeO.bind ?_ (fun _ => ?_))
   | exact ih0 _ _ _
   | exact ih1 _ _ _ _ _
   | exact ih2 _ _ _ _ _ _ _ _ _ _ _
   | exact ih3 _ _ _ _ _ _ _ _ _ _
   | exact ih4 _ _ _ _ _ _ _ _ _ _
   | exact elevator_Check.mono _ _
   | exact elevator_Order.mono _ _ _
   | exact elevator_Runs.mono _ _
   | exact elevator_Way.mono _ _ _
   | exact LeO.none _
   | refine LeO.ite ?_ ?_
   | refine LeO.bind ?_ (fun _ => ?_)
  ·intro y0 y1 y2 y3 y4 y5 y6 y7 y8 y9
   unfold caulklaw40_ElevatorFar.l2
   repeat' first
   | (with_reducible exact ih0 _ _ _)
   | (with_reducible exact ih1 _ _ _ _ _)
   | (with_reducible exact ih2 _ _ _ _ _ _ _ _ _ _ _)
   | (with_reducible exact ih3 _ _ _ _ _ _ _ _ _ _)
   | (with_reducible exact ih4 _ _ _ _ _ _ _ _ _ _)
   | (with_reducible exact elevator_Check.mono _ _)
   | (with_reducible exact elevator_Order.mono _ _ _)
   | (with_reducible exact elevator_Runs.mono _ _)
   | (with_reducible exact elevator_Way.mono _ _ _)
   | (with_reducible exact LeO.refl _)
   | (with_reducible exact LeO.none _)
   | (with_reducible refine LeO.ite ?_ ?_)
   | (with_reducible refine LeO.bind ?_ (fun _ => ?_))
   | exact ih0 _ _ _
   | exact ih1 _ _ _ _ _
   | exact ih2 _ _ _ _ _ _ _ _ _ _ _
   | exact ih3 _ _ _ _ _ _ _ _ _ _
   | exact ih4 _ _ _ _ _ _ _ _ _ _
   | exact elevator_Check.mono _ _
   | exact elevator_Order.mono _ _ _
   | exact elevator_Runs.mono _ _
   | exact elevator_Way.mono _ _ _
   | exact LeO.none _
   | refine LeO.ite ?_ ?_
   | refine LeO.bind ?_ (fun _ => ?_)
  ·intro y0 y1 y2 y3 y4 y5 y6 y7 y8 y9
   unfold caulklaw40_ElevatorFar.l3
   repeat' first
   | (with_reducible exact ih0 _ _ _)
   | (with_reducible exact ih1 _ _ _ _ _)
   | (with_reducible exact ih2 _ _ _ _ _ _ _ _ _ _ _)
   | (with_reducible exact ih3 _ _ _ _ _ _ _ _ _ _)
   | (with_reducible exact ih4 _ _ _ _ _ _ _ _ _ _)
   | (with_reducible exact elevator_Check.mono _ _)
   | (with_reducible exact elevator_Order.mono _ _ _)
   | (with_reducible exact elevator_Runs.mono _ _)
   | (with_reducible exact elevator_Way.mono _ _ _)
   | (with_reducible exact LeO.refl _)
   | (with_reducible exact LeO.none _)
   | (with_reducible refine LeO.ite ?_ ?_)
   | (with_reducible refine LeO.bind ?_ (fun _ => ?_))
   | exact ih0 _ _ _
   | exact ih1 _ _ _ _ _
   | exact ih2 _ _ _ _ _ _ _ _ _ _ _
   | exact ih3 _ _ _ _ _ _ _ _ _ _
   | exact ih4 _ _ _ _ _ _ _ _ _ _
   | exact elevator_Check.mono _ _
   | exact elevator_Order.mono _ _ _
   | exact elevator_Runs.mono _ _
   | exact elevator_Way.mono _ _ _
   | exact LeO.none _
   | refine LeO.ite ?_ ?_
   | refine LeO.bind ?_ (fun _ => ?_)
theorem caulklaw40_ElevatorFar.mono : ∀ a0 a1 k, LeO (caulklaw40_ElevatorFar.f k a0 a1) (caulklaw40_ElevatorFar.f (k + 1) a0 a1) := by
 intro a0 a1 k
 obtain ⟨ih0, ih1, ih2, ih3, ih4⟩ := caulklaw40_ElevatorFar.mono_l k
 unfold caulklaw40_ElevatorFar.f
 repeat' first
   | (with_reducible exact ih0 _ _ _)
   | (with_reducible exact ih1 _ _ _ _ _)
   | (with_reducible exact ih2 _ _ _ _ _ _ _ _ _ _ _)
   | (with_reducible exact ih3 _ _ _ _ _ _ _ _ _ _)
   | (with_reducible exact ih4 _ _ _ _ _ _ _ _ _ _)
   | (with_reducible exact elevator_Check.mono _ _)
   | (with_reducible exact elevator_Order.mono _ _ _)
   | (with_reducible exact elevator_Runs.mono _ _)
   | (with_reducible exact elevator_Way.mono _ _ _)
   | (with_reducible exact LeO.refl _)
   | (with_reducible exact LeO.none _)
   | (with_reducible refine LeO.ite ?_ ?_)
   | (with_reducible refine LeO.bind ?_ (fun _ => ?_))
   | exact ih0 _ _ _
   | exact ih1 _ _ _ _ _
   | exact ih2 _ _ _ _ _ _ _ _ _ _ _
   | exact ih3 _ _ _ _ _ _ _ _ _ _
   | exact ih4 _ _ _ _ _ _ _ _ _ _
   | exact elevator_Check.mono _ _
   | exact elevator_Order.mono _ _ _
   | exact elevator_Runs.mono _ _
   | exact elevator_Way.mono _ _ _
   | exact LeO.none _
   | refine LeO.ite ?_ ?_
   | refine LeO.bind ?_ (fun _ => ?_)
set_option maxHeartbeats 8000000 in
set_option maxRecDepth 100000 in
theorem caulklaw40_ElevatorFar.calls (k : Nat) (a0 : Int) (A1 : Option Addr) (c1 : Nat) (l1 : List (S37)) (r : Bool) (w : World) (hr1 : Kd.C k37 w A1 l1.length l1) (hc1 : l1.length ≤ c1) (hrt : Aside0 (r = true)) (h : caulklaw40_ElevatorFar.f k a0 l1 = some r) :
  Calls Try.prog 5 #[.int .i64 a0, .slice A1 l1.length c1] w fun e w' => e = .returned (.bool r) ∧ Below w.heap.size w w' := by
 have hu37 := Try.underlying37
 have hu39 := Try.underlying39
 have HR1 := Aside0.mk hr1
 have HC1 := Aside0.mk hc1
 clear hr1 hc1
 have HB := Aside0.mk (Below.refl w.heap.size w)
 have H : ((caulklaw40_lives.f).bind fun t7322 => (if t7322 = true then (if (l1.length : Int) > 60 then (caulklaw40_ElevatorFar.j0 k a0 l1 true) else ((elevator_Check.f k l1).bind fun t7323 => (caulklaw40_ElevatorFar.j0 k a0 l1 (t7323 != 0)))) else (some false))) = some r := h
 clear h
 replace H := Option.bind_eq_some_iff.mp H
 obtain ⟨t7322, A30, H⟩ := H
 replace H : (if t7322 = true then (if (l1.length : Int) > 60 then (caulklaw40_ElevatorFar.j0 k a0 l1 true) else ((elevator_Check.f k l1).bind fun t7323 => (caulklaw40_ElevatorFar.j0 k a0 l1 (t7323 != 0)))) else (some false)) = some r := H
 have A3 := Aside0.mk A30
 clear A30
 by_cases c4 : t7322 = true
 ·subst c4
  have H1 : (if (l1.length : Int) > 60 then (caulklaw40_ElevatorFar.j0 k a0 l1 true) else ((elevator_Check.f k l1).bind fun t7323 => (caulklaw40_ElevatorFar.j0 k a0 l1 (t7323 != 0)))) = some r := by rw [if_pos rfl] at H; exact H
  clear H
  have H := H1
  clear H1
  have HC5 := Aside0.mk H
  clear H
  go_enter Try.func5, Try.ntmps5
  (try simp only [List.append_eq, List.cons_append, List.nil_append])
  go_upto_region 3 with (first | ((with_reducible refine gate_callee (f := 13) rfl ?_); refine goesL_ (some 21) rfl rfl Try.func13 (by kernel_rfl) rfl #[] rfl (by (try simp only [List.map_toArray, List.map_cons, List.map_nil]); first | done | rfl | (simp only [List.length_drop, List.length_take]; rfl)) ?_; (with_reducible refine (caulklaw40_lives.calls  true _ A3.out).mono ?_); rintro e w6 ⟨rfl, hb⟩; refine ⟨_, rfl, ?_⟩; have n0_ := Aside0.mk (below_step (by repeat (first | (with_reducible first | exact HB.out | apply below_alloc | apply pw_below_drewN | apply below_drew1) | exact HB.out)) hb); clear HB; have HB := n0_; clear n0_; (try clear hb); (try clear hb2); (try clear hk); (try clear hi)))
  (try simp only [Act.put, List.setIfInBounds_toArray, List.set_cons_zero, List.set_cons_succ])
  go_cut [30] (fun v30 wc => ∃ (kq : Nat) (x30_4 : Bool), v30 = .bool x30_4 ∧ Aside0 (caulklaw40_ElevatorFar.j0 kq a0 l1 x30_4 = some r) ∧ Aside0 (kq ≤ k) ∧ Aside0 (Below w.heap.size w wc))
  case first =>
   have H := HC5.out
   clear HC5
   by_cases c7 : (l1.length : Int) > 60
   ·rw [if_pos c7] at H
    have c7b0 : decide (60 < (l1.length : Int)) = true := decide_eq_true c7
    have c7b1 : decide (60 < l1.length) = true := decide_eq_true (by omega)
    clear c7
    (first | rw [c7b0] | (simp only [i64_w, i32_w]; rw [c7b0]) | skip)
    have H' := Aside0.mk H
    clear H
    go_wp2
    go_meet
    case rel => exact ⟨_, (true), (by first | rfl | (simp; done) | (simp [*]; done)), H', ⟨by first | omega | exact Nat.le_refl _⟩, ⟨by repeat (first | (with_reducible first | exact HB.out | apply below_alloc | apply pw_below_drewN | apply below_drew1) | exact HB.out)⟩⟩
   ·rw [if_neg c7] at H
    have c7b0 : decide (60 < (l1.length : Int)) = false := decide_eq_false c7
    have c7b1 : decide (60 < l1.length) = false := decide_eq_false (by omega)
    clear c7
    (first | rw [c7b0] | (simp only [i64_w, i32_w]; rw [c7b0]) | skip)
    replace H := Option.bind_eq_some_iff.mp H
    obtain ⟨t7323, A80, H⟩ := H
    replace H : (caulklaw40_ElevatorFar.j0 k a0 l1 (t7323 != 0)) = some r := H
    have A8 := Aside0.mk A80
    clear A80
    have H' := Aside0.mk H
    clear H
    go_wp2_with (first | ((with_reducible refine HOpen.gate_append ?_); simp only [List.cons_append, List.nil_append]) | ((with_reducible refine gate_callee (f := 20) rfl ?_); (try (refine gate_guard (by rfl) ?_; dsimp only)); refine goesL_ (some 28) rfl rfl Try.func20 (by kernel_rfl) rfl #[.slice A1 l1.length c1] rfl (by (try simp only [List.map_toArray, List.map_cons, List.map_nil]); first | done | rfl | (simp only [List.length_drop, List.length_take]; rfl)) ?_; (with_reducible refine (elevator_Check.calls k _ _ l1 t7323 _ ?side1 ?side2 A8.out).mono ?_); (case side1 => repeat (first | exact (Kd.C_below HR1.out HB.out) | (with_reducible refine Kd.C_alloc ?_ _) | (with_reducible refine Kd.C_drewN ?_ _) | (with_reducible refine Kd.C_drew ?_))); (case side2 => exact HC1.out); rintro e w9 ⟨rfl, hb⟩; refine ⟨_, rfl, ?_⟩; have n0_ := Aside0.mk (below_step (by repeat (first | (with_reducible first | exact HB.out | apply below_alloc | apply pw_below_drewN | apply below_drew1) | exact HB.out)) hb); clear HB; have HB := n0_; clear n0_; (try clear hb); (try clear hb2); (try clear hk); (try clear hi)))
    go_meet
    case rel => exact ⟨_, ((t7323 != 0)), (by first | rfl | (simp; done) | (simp [*]; done)), H', ⟨by first | omega | exact Nat.le_refl _⟩, ⟨by repeat (first | (with_reducible first | exact HB.out | apply below_alloc | apply pw_below_drewN | apply below_drew1) | exact HB.out)⟩⟩
  case rest =>
   clear HC5
   try clear c1
   try clear c2
   try clear p2
   try clear c4
   try clear c5
   try clear c7
   try clear c7b0
   try clear c7b1
   obtain ⟨kq, x30_4, rfl, HA, HJ4, HB⟩ := hcut
   cases kq with
   | zero => exact absurd HA.out (by simp [caulklaw40_ElevatorFar.j0])
   | succ kj4 =>
    have H := HA.out
    clear HA
    simp only [caulklaw40_ElevatorFar.j0] at H
    by_cases c10 : x30_4 = true
    ·subst c10
     have H1 : (some true) = some r := by rw [if_pos rfl] at H; exact H
     clear H
     have H := H1
     clear H1
     obtain rfl := Option.some.inj H
     go_wp2
     go_ret
     exact ⟨by first | rfl | (simp [errW_none, errW_some] <;> rfl) | (simp [*, errW_none, errW_some] <;> rfl), by repeat (first | (with_reducible first | exact HB.out | apply below_alloc | apply pw_below_drewN | apply below_drew1) | exact HB.out)⟩
    ·replace c10 := Bool.eq_false_iff.mpr c10
     subst c10
     have H1 : (caulklaw40_ElevatorFar.l0 kj4 a0 l1 l1 (l1.length : Int) 0) = some r := by rw [if_neg (show ¬ (false = true) by decide)] at H; exact H
     clear H
     have H := H1
     clear H1
     have H' := Aside0.mk H
     clear H
     go_wp2
     go_loopg [33] kj4 (fun kq v33 w' => ∃ (x33_2 : Int), v33 = .int .i64 x33_2 ∧ Aside0 (caulklaw40_ElevatorFar.l0 kq a0 l1 l1 (l1.length : Int) x33_2 = some r) ∧ Aside0 (kq ≤ kj4) ∧ Aside0 (Below w.heap.size w w'))
     case atStart => exact ⟨(0), (by first | rfl | (simp; done) | (simp [*]; done)), H', ⟨Nat.le_refl _⟩, ⟨by repeat (first | (with_reducible first | exact HB.out | apply below_alloc | apply pw_below_drewN | apply below_drew1) | exact HB.out)⟩⟩
     case round =>
      clear H'
      try clear c1
      try clear c2
      try clear p2
      try clear c4
      try clear c5
      try clear c7
      try clear c7b0
      try clear c7b1
      try clear c10
      try clear p2
      obtain ⟨x33_2, rfl, HA, HK2, HB⟩ := hrel
      cases gk with
      | zero => exact absurd HA.out (by simp [caulklaw40_ElevatorFar.l0])
      | succ k2 =>
       have H := HA.out
       clear HA
       simp only [caulklaw40_ElevatorFar.l0] at H
       by_cases c11 : x33_2 < (l1.length : Int)
       ·rw [if_pos c11] at H
        have c11b0 : decide (x33_2 < (l1.length : Int)) = true := decide_eq_true c11
        clear c11
        by_cases c12 : 0 ≤ x33_2
        ·rw [if_pos c12] at H
         have c12b0 : decide (0 ≤ x33_2) = true := decide_eq_true c12
         clear c12
         by_cases c13 : x33_2 < (l1.length : Int)
         ·rw [if_pos c13] at H
          have c13b0 : decide (x33_2 < (l1.length : Int)) = true := decide_eq_true c13
          clear c13
          have c14b0 := eq_true (of_decide_eq_true (by first | (with_reducible assumption) | assumption) : 0 ≤ x33_2)
          by_cases c15 : x33_2 ≤ (l1.length : Int)
          ·rw [if_pos c15] at H
           have c15b0 := eq_true c15
           have c15b1 : decide (x33_2 ≤ (l1.length : Int)) = true := decide_eq_true c15
           clear c15
           obtain ⟨y7326, hy7326⟩ : ∃ y_ : List (S37), y_ = (l1.take (x33_2 : Int).toNat) := ⟨_, rfl⟩
           replace H : (caulklaw40_ElevatorFar.l1 k2 a0 l1 l1 (l1.length : Int) x33_2 y7326 (y7326.length : Int) 0 ((rd_T37 l1 x33_2).f0) ((rd_T37 l1 x33_2).f1) ((rd_T37 l1 x33_2).f2)) = some r := by first | (rw [hy7326]; with_reducible exact H) | (have H2_ := (Option.bind_some _ _).symm.trans H; rw [hy7326]; with_reducible exact H2_) | (have H2_ := (Option.bind_some _ _).symm.trans H; with_reducible exact H2_) | with_reducible exact H | (rw [hy7326]; exact H) | exact H
           have Ny7326 := Aside0.mk hy7326
           clear hy7326
           have H' := Aside0.mk H
           clear H
           have p7324 : 0 ≤ (x33_2 : Int) := of_decide_eq_true (by first | (with_reducible assumption) | assumption)
           have q7324 : x33_2 < (l1.length : Int) := of_decide_eq_true (by first | (with_reducible assumption) | assumption)
           obtain ⟨ad7324, e7324, hx7324_0, hx7324_1, hx7324_2⟩ := at_T37 HR1.out x33_2 p7324 q7324
           cases e7324
           replace hx7324_0 := (HB.out.cell (World.block_lt_of_cell? w _ hx7324_0)).trans hx7324_0
           replace hx7324_1 := (HB.out.cell (World.block_lt_of_cell? w _ hx7324_1)).trans hx7324_1
           replace hx7324_2 := (HB.out.cell (World.block_lt_of_cell? w _ hx7324_2)).trans hx7324_2
           replace p7324 := eq_true p7324
           replace q7324 := eq_true q7324
           go_wp2_with (first | ((with_reducible refine HOpen.gate_append ?_); simp only [List.cons_append, List.nil_append]) | ((with_reducible refine gate_dst (N := 6) rfl ?_); (try (refine gate_guard (by rfl) ?_; dsimp only)); refine box_event ?hg (N := 6) ?hd (cs := #[.int .i64 0, .int .i64 0, .int .i64 0]) (t := 37) ?hr ?_; (case hd => rfl); (case hg => rfl); (case hr => first | (go_simp; done) | (go_simp; rfl)); intro gb7325 hg w16 hbox hb; have n0_ := Aside0.mk (below_step (by repeat (first | (with_reducible first | exact HB.out | apply below_alloc | apply pw_below_drewN | apply below_drew1) | exact HB.out)) hb); have n1_ := Aside0.mk (hbox); have n2_ := Aside0.mk ((by rw [hg]; exact (below_size (by repeat (first | (with_reducible first | exact HB.out | apply below_alloc | apply pw_below_drewN | apply below_drew1) | exact HB.out))) : w.heap.size ≤ gb7325)); have n3_ := Aside0.mk ((by rw [hg]; exact (below_size (by repeat (first | (with_reducible first | exact HB.out | apply below_alloc | apply pw_below_drewN | apply below_drew1) | exact HB.out))) : w.heap.size ≤ gb7325)); clear HB; have HB := n0_; have BK7325 := n1_; have GW7325 := n2_; have GE7325 := n3_; clear n0_ n1_ n2_ n3_; clear hb hbox hg; have hcz17_0 : w16.cell? ⟨gb7325, 0, none⟩ = some (.int .i64 0) := (blk_cell BK7325.out 0).trans rfl; have hcz17_1 : w16.cell? ⟨gb7325, 1, none⟩ = some (.int .i64 0) := (blk_cell BK7325.out 1).trans rfl; have hcz17_2 : w16.cell? ⟨gb7325, 2, none⟩ = some (.int .i64 0) := (blk_cell BK7325.out 2).trans rfl; have hfz17_0 := blk_frozen BK7325.out 0; have hfz17_1 := blk_frozen BK7325.out 1; have hfz17_2 := blk_frozen BK7325.out 2) | ((with_reducible refine gate_store (t := 37) (p := 6) rfl ?_); refine store_event (t := 37) (p := 6) (v := ?vo_w18) (w1 := (((w16.setCell ⟨gb7325, 0, none⟩ (.int .i64 ((rd_T37 l1 x33_2).f0))).setCell ⟨gb7325, 1, none⟩ (.int .i64 ((rd_T37 l1 x33_2).f1))).setCell ⟨gb7325, 2, none⟩ (.int .i64 ((rd_T37 l1 x33_2).f2)))) ?hg ?ho ?hn ?hr ?_; (case ho => rfl); (case hg => rfl); (case hn => rfl); (case hr => first | (go_simp; done) | (go_simp; rfl)); intro w18 hw; have n0_ : Aside0 (w18.heap[gb7325]? = some (.cells #[.int .i64 ((rd_T37 l1 x33_2).f0), .int .i64 ((rd_T37 l1 x33_2).f1), .int .i64 ((rd_T37 l1 x33_2).f2)] 37 (0, 0))) := ⟨(by rw [hw]; exact (by (with_reducible repeat (first | refine blk_drewN ?_ _ | refine blk_drew ?_ | refine blk_alloc ?_ _)); refine blk_put (cs := #[.int .i64 ((rd_T37 l1 x33_2).f0), .int .i64 ((rd_T37 l1 x33_2).f1), .int .i64 0]) ?_ 2 _ rfl; (with_reducible repeat (first | refine blk_drewN ?_ _ | refine blk_drew ?_ | refine blk_alloc ?_ _)); refine blk_put (cs := #[.int .i64 ((rd_T37 l1 x33_2).f0), .int .i64 0, .int .i64 0]) ?_ 1 _ rfl; (with_reducible repeat (first | refine blk_drewN ?_ _ | refine blk_drew ?_ | refine blk_alloc ?_ _)); refine blk_put (cs := #[.int .i64 0, .int .i64 0, .int .i64 0]) ?_ 0 _ rfl; (with_reducible repeat (first | refine blk_drewN ?_ _ | refine blk_drew ?_ | refine blk_alloc ?_ _)); exact BK7325.out))⟩; have n1_ : Aside0 (Below w.heap.size w w18) := ⟨(by rw [hw]; exact (by repeat (first | (with_reducible first | exact HB.out | apply below_alloc | apply pw_below_drewN | apply below_drew1 | refine below_set ?_ GE7325.out) | exact HB.out)))⟩; clear hw; clear BK7325; clear HB; have BK7325 := n0_; have HB := n1_; clear n0_ n1_; have q19 : (x33_2 : Int) ≤ ((l1.length : Int) : Int) := of_decide_eq_true (by first | (with_reducible assumption) | assumption); obtain ⟨i019, hi019, _, hsz19, _⟩ := info_parts info37; have hroom19 : l1.length ≤ c1 := HC1.out; have hC19 : Kd.C k37 _ (some ad7324) l1.length l1 := HR1.out; have hcut19 := cut_to (P := Try.prog) 22 37 .i64 Try.underlying22 hi019 (some ad7324) l1.length c1 x33_2 (of_decide_eq_true (by first | (with_reducible assumption) | assumption)) q19 hroom19; have hr19 := Kd.C_take (m := (x33_2 : Int).toNat) hC19 (by omega); have hy19 : y7326.length = (x33_2 : Int).toNat := (by rw [Ny7326.out, List.length_take]; omega); rw [← Ny7326.out] at hr19; rw [← hy19] at hcut19; have HR7329 := Aside0.mk hr19; have HC7329 := Aside0.mk (show y7326.length ≤ c1 from by omega); clear hr19 hC19 hroom19 hi019 hsz19; have KY19 := Aside0.mk hy19; clear hy19; replace q19 := eq_true q19))
           go_loopg [42] k2 (fun kq v42 w' => ∃ (x42_3 : Int), v42 = .int .i64 x42_3 ∧ Aside0 (caulklaw40_ElevatorFar.l1 kq a0 l1 l1 (l1.length : Int) x33_2 y7326 (y7326.length : Int) x42_3 ((rd_T37 l1 x33_2).f0) ((rd_T37 l1 x33_2).f1) ((rd_T37 l1 x33_2).f2) = some r) ∧ Aside0 (kq ≤ k2) ∧ Aside0 (w'.heap[gb7325]? = some (.cells #[.int .i64 ((rd_T37 l1 x33_2).f0), .int .i64 ((rd_T37 l1 x33_2).f1), .int .i64 ((rd_T37 l1 x33_2).f2)] 37 (0, 0))) ∧ Aside0 (Below w.heap.size w w'))
           case atStart => exact ⟨(0), (by first | rfl | (simp; done) | (simp [*]; done)), H', ⟨Nat.le_refl _⟩, ⟨by (with_reducible repeat (first | refine blk_drewN ?_ _ | refine blk_drew ?_ | refine blk_alloc ?_ _)); exact BK7325.out⟩, ⟨by repeat (first | (with_reducible first | exact HB.out | apply below_alloc | apply pw_below_drewN | apply below_drew1 | refine below_set ?_ GE7325.out) | exact HB.out)⟩⟩
           case round =>
            clear H'
            try clear c1
            try clear q1
            try clear c2
            try clear p2
            try clear c4
            try clear c5
            try clear c7
            try clear c7b0
            try clear c7b1
            try clear p7
            try clear q7
            try clear hx7
            try clear c10
            try clear c11
            try clear c11b0
            try clear c12
            try clear c12b0
            try clear c13
            try clear c13b0
            try clear c14
            try clear c14b0
            try clear c15
            try clear c15b0
            try clear c15b1
            try clear q19
            try clear hcz17_0
            try clear hcz17_1
            try clear hcz17_2
            try clear hfz17_0
            try clear hfz17_1
            try clear hfz17_2
            try clear hx7324_0
            try clear hx7324_1
            try clear hx7324_2
            try clear p2
            try clear p7324
            try clear q19
            try clear q7324
            obtain ⟨x42_3, rfl, HA, HK3, BK7325, HB⟩ := hrel
            cases gk with
            | zero => exact absurd HA.out (by simp [caulklaw40_ElevatorFar.l1])
            | succ k3 =>
             have H := HA.out
             clear HA
             simp only [caulklaw40_ElevatorFar.l1] at H
             by_cases c20 : x42_3 < (y7326.length : Int)
             ·rw [if_pos c20] at H
              have c20b0 : decide (x42_3 < (y7326.length : Int)) = true := decide_eq_true c20
              clear c20
              by_cases c21 : 0 ≤ x42_3
              ·rw [if_pos c21] at H
               have c21b0 : decide (0 ≤ x42_3) = true := decide_eq_true c21
               clear c21
               by_cases c22 : x42_3 < (y7326.length : Int)
               ·rw [if_pos c22] at H
                have c22b0 : decide (x42_3 < (y7326.length : Int)) = true := decide_eq_true c22
                clear c22
                by_cases c23 : ((rd_T37 l1 x33_2).f0) < (wrap64 (((rd_T37 y7326 x42_3).f0) + ((rd_T37 y7326 x42_3).f1)))
                ·rw [if_pos c23] at H
                 have c23b0 : decide (((rd_T37 l1 x33_2).f0) < (wrap64 (((rd_T37 y7326 x42_3).f0) + ((rd_T37 y7326 x42_3).f1)))) = true := decide_eq_true c23
                 clear c23
                 by_cases c24 : ((rd_T37 y7326 x42_3).f0) < (wrap64 (((rd_T37 l1 x33_2).f0) + ((rd_T37 l1 x33_2).f1)))
                 ·rw [if_pos c24] at H
                  have c24b0 : decide (((rd_T37 y7326 x42_3).f0) < (wrap64 (((rd_T37 l1 x33_2).f0) + ((rd_T37 l1 x33_2).f1)))) = true := decide_eq_true c24
                  clear c24
                  obtain rfl := Option.some.inj H
                  have p7330 : 0 ≤ (x42_3 : Int) := of_decide_eq_true (by first | (with_reducible assumption) | assumption)
                  have q7330 : x42_3 < (y7326.length : Int) := of_decide_eq_true (by first | (with_reducible assumption) | assumption)
                  obtain ⟨ad7330, e7330, hx7330_0, hx7330_1, hx7330_2⟩ := at_T37 HR7329.out x42_3 p7330 q7330
                  obtain rfl : ad7324 = ad7330 := (by injection e7330)
                  replace hx7330_0 := (HB.out.cell (World.block_lt_of_cell? w _ hx7330_0)).trans hx7330_0
                  replace hx7330_1 := (HB.out.cell (World.block_lt_of_cell? w _ hx7330_1)).trans hx7330_1
                  replace hx7330_2 := (HB.out.cell (World.block_lt_of_cell? w _ hx7330_2)).trans hx7330_2
                  replace p7330 := eq_true p7330
                  replace q7330 := eq_true q7330
                  go_wp2_with (first | ((with_reducible refine HOpen.gate_append ?_); simp only [List.cons_append, List.nil_append]) | ((with_reducible refine gate_dst (N := 8) rfl ?_); (try (refine gate_guard (by rfl) ?_; dsimp only)); refine box_event ?hg (N := 8) ?hd (cs := #[.int .i64 0, .int .i64 0, .int .i64 0]) (t := 37) ?hr ?_; (case hd => rfl); (case hg => rfl); (case hr => first | (go_simp; done) | (go_simp; rfl)); intro gb7331 hg w25 hbox hb; have n0_ := Aside0.mk (blk_below (g := gb7325) (o := .cells #[.int .i64 ((rd_T37 l1 x33_2).f0), .int .i64 ((rd_T37 l1 x33_2).f1), .int .i64 ((rd_T37 l1 x33_2).f2)] 37 (0, 0)) (by (with_reducible repeat (first | refine blk_drewN ?_ _ | refine blk_drew ?_ | refine blk_alloc ?_ _)); exact BK7325.out) hb); have n1_ := Aside0.mk (below_step (by repeat (first | (with_reducible first | exact HB.out | apply below_alloc | apply pw_below_drewN | apply below_drew1 | refine below_set ?_ GE7325.out) | exact HB.out)) hb); have n2_ := Aside0.mk (hbox); have n3_ := Aside0.mk ((by rw [hg]; exact (below_size (by repeat (first | (with_reducible first | exact HB.out | apply below_alloc | apply pw_below_drewN | apply below_drew1 | refine below_set ?_ GE7325.out) | exact HB.out))) : w.heap.size ≤ gb7331)); have n4_ := Aside0.mk ((by rw [hg]; exact (below_size (by repeat (first | (with_reducible first | exact HB.out | apply below_alloc | apply pw_below_drewN | apply below_drew1 | refine below_set ?_ GE7325.out) | exact HB.out))) : w.heap.size ≤ gb7331)); have n5_ := Aside0.mk ((by rw [hg]; exact Nat.ne_of_lt (blk_lt (g := gb7325) (o := .cells #[.int .i64 ((rd_T37 l1 x33_2).f0), .int .i64 ((rd_T37 l1 x33_2).f1), .int .i64 ((rd_T37 l1 x33_2).f2)] 37 (0, 0)) (by (with_reducible repeat (first | refine blk_drewN ?_ _ | refine blk_drew ?_ | refine blk_alloc ?_ _)); exact BK7325.out)) : gb7325 ≠ gb7331)); have n6_ := Aside0.mk ((by rw [hg]; exact Nat.ne_of_gt (blk_lt (g := gb7325) (o := .cells #[.int .i64 ((rd_T37 l1 x33_2).f0), .int .i64 ((rd_T37 l1 x33_2).f1), .int .i64 ((rd_T37 l1 x33_2).f2)] 37 (0, 0)) (by (with_reducible repeat (first | refine blk_drewN ?_ _ | refine blk_drew ?_ | refine blk_alloc ?_ _)); exact BK7325.out)) : gb7331 ≠ gb7325)); clear BK7325; clear HB; have BK7325 := n0_; have HB := n1_; have BK7331 := n2_; have GW7331 := n3_; have GE7331 := n4_; have NB7325_7331 := n5_; have NB7331_7325 := n6_; clear n0_ n1_ n2_ n3_ n4_ n5_ n6_; clear hb hbox hg; have hnb26 := NB7331_7325.out; have hnc26 := NB7325_7331.out; have hcz27_0 : w25.cell? ⟨gb7331, 0, none⟩ = some (.int .i64 0) := (blk_cell BK7331.out 0).trans rfl; have hcz27_1 : w25.cell? ⟨gb7331, 1, none⟩ = some (.int .i64 0) := (blk_cell BK7331.out 1).trans rfl; have hcz27_2 : w25.cell? ⟨gb7331, 2, none⟩ = some (.int .i64 0) := (blk_cell BK7331.out 2).trans rfl; have hfz27_0 := blk_frozen BK7331.out 0; have hfz27_1 := blk_frozen BK7331.out 1; have hfz27_2 := blk_frozen BK7331.out 2; have hcz28_0 : w25.cell? ⟨gb7325, 0, none⟩ = some (.int .i64 ((rd_T37 l1 x33_2).f0)) := (blk_cell BK7325.out 0).trans rfl; have hcz28_1 : w25.cell? ⟨gb7325, 1, none⟩ = some (.int .i64 ((rd_T37 l1 x33_2).f1)) := (blk_cell BK7325.out 1).trans rfl; have hcz28_2 : w25.cell? ⟨gb7325, 2, none⟩ = some (.int .i64 ((rd_T37 l1 x33_2).f2)) := (blk_cell BK7325.out 2).trans rfl; have hfz28_0 := blk_frozen BK7325.out 0; have hfz28_1 := blk_frozen BK7325.out 1; have hfz28_2 := blk_frozen BK7325.out 2))
                  go_ret
                  exact ⟨by first | rfl | (simp [errW_none, errW_some] <;> rfl) | (simp [*, errW_none, errW_some] <;> rfl), by repeat (first | (with_reducible first | exact HB.out | apply below_alloc | apply pw_below_drewN | apply below_drew1 | refine below_set ?_ GE7325.out | refine below_set ?_ GE7331.out) | exact HB.out)⟩
                 ·rw [if_neg c24] at H
                  have c24b0 : decide (((rd_T37 y7326 x42_3).f0) < (wrap64 (((rd_T37 l1 x33_2).f0) + ((rd_T37 l1 x33_2).f1)))) = false := decide_eq_false c24
                  clear c24
                  have H' := Aside0.mk H
                  clear H
                  have p7330 : 0 ≤ (x42_3 : Int) := of_decide_eq_true (by first | (with_reducible assumption) | assumption)
                  have q7330 : x42_3 < (y7326.length : Int) := of_decide_eq_true (by first | (with_reducible assumption) | assumption)
                  obtain ⟨ad7330, e7330, hx7330_0, hx7330_1, hx7330_2⟩ := at_T37 HR7329.out x42_3 p7330 q7330
                  obtain rfl : ad7324 = ad7330 := (by injection e7330)
                  replace hx7330_0 := (HB.out.cell (World.block_lt_of_cell? w _ hx7330_0)).trans hx7330_0
                  replace hx7330_1 := (HB.out.cell (World.block_lt_of_cell? w _ hx7330_1)).trans hx7330_1
                  replace hx7330_2 := (HB.out.cell (World.block_lt_of_cell? w _ hx7330_2)).trans hx7330_2
                  replace p7330 := eq_true p7330
                  replace q7330 := eq_true q7330
                  go_wp2_with (first | ((with_reducible refine HOpen.gate_append ?_); simp only [List.cons_append, List.nil_append]) | ((with_reducible refine gate_dst (N := 8) rfl ?_); (try (refine gate_guard (by rfl) ?_; dsimp only)); refine box_event ?hg (N := 8) ?hd (cs := #[.int .i64 0, .int .i64 0, .int .i64 0]) (t := 37) ?hr ?_; (case hd => rfl); (case hg => rfl); (case hr => first | (go_simp; done) | (go_simp; rfl)); intro gb7331 hg w29 hbox hb; have n0_ := Aside0.mk (blk_below (g := gb7325) (o := .cells #[.int .i64 ((rd_T37 l1 x33_2).f0), .int .i64 ((rd_T37 l1 x33_2).f1), .int .i64 ((rd_T37 l1 x33_2).f2)] 37 (0, 0)) (by (with_reducible repeat (first | refine blk_drewN ?_ _ | refine blk_drew ?_ | refine blk_alloc ?_ _)); exact BK7325.out) hb); have n1_ := Aside0.mk (below_step (by repeat (first | (with_reducible first | exact HB.out | apply below_alloc | apply pw_below_drewN | apply below_drew1 | refine below_set ?_ GE7325.out) | exact HB.out)) hb); have n2_ := Aside0.mk (hbox); have n3_ := Aside0.mk ((by rw [hg]; exact (below_size (by repeat (first | (with_reducible first | exact HB.out | apply below_alloc | apply pw_below_drewN | apply below_drew1 | refine below_set ?_ GE7325.out) | exact HB.out))) : w.heap.size ≤ gb7331)); have n4_ := Aside0.mk ((by rw [hg]; exact (below_size (by repeat (first | (with_reducible first | exact HB.out | apply below_alloc | apply pw_below_drewN | apply below_drew1 | refine below_set ?_ GE7325.out) | exact HB.out))) : w.heap.size ≤ gb7331)); have n5_ := Aside0.mk ((by rw [hg]; exact Nat.ne_of_lt (blk_lt (g := gb7325) (o := .cells #[.int .i64 ((rd_T37 l1 x33_2).f0), .int .i64 ((rd_T37 l1 x33_2).f1), .int .i64 ((rd_T37 l1 x33_2).f2)] 37 (0, 0)) (by (with_reducible repeat (first | refine blk_drewN ?_ _ | refine blk_drew ?_ | refine blk_alloc ?_ _)); exact BK7325.out)) : gb7325 ≠ gb7331)); have n6_ := Aside0.mk ((by rw [hg]; exact Nat.ne_of_gt (blk_lt (g := gb7325) (o := .cells #[.int .i64 ((rd_T37 l1 x33_2).f0), .int .i64 ((rd_T37 l1 x33_2).f1), .int .i64 ((rd_T37 l1 x33_2).f2)] 37 (0, 0)) (by (with_reducible repeat (first | refine blk_drewN ?_ _ | refine blk_drew ?_ | refine blk_alloc ?_ _)); exact BK7325.out)) : gb7331 ≠ gb7325)); clear BK7325; clear HB; have BK7325 := n0_; have HB := n1_; have BK7331 := n2_; have GW7331 := n3_; have GE7331 := n4_; have NB7325_7331 := n5_; have NB7331_7325 := n6_; clear n0_ n1_ n2_ n3_ n4_ n5_ n6_; clear hb hbox hg; have hnb30 := NB7331_7325.out; have hnc30 := NB7325_7331.out; have hcz31_0 : w29.cell? ⟨gb7331, 0, none⟩ = some (.int .i64 0) := (blk_cell BK7331.out 0).trans rfl; have hcz31_1 : w29.cell? ⟨gb7331, 1, none⟩ = some (.int .i64 0) := (blk_cell BK7331.out 1).trans rfl; have hcz31_2 : w29.cell? ⟨gb7331, 2, none⟩ = some (.int .i64 0) := (blk_cell BK7331.out 2).trans rfl; have hfz31_0 := blk_frozen BK7331.out 0; have hfz31_1 := blk_frozen BK7331.out 1; have hfz31_2 := blk_frozen BK7331.out 2; have hcz32_0 : w29.cell? ⟨gb7325, 0, none⟩ = some (.int .i64 ((rd_T37 l1 x33_2).f0)) := (blk_cell BK7325.out 0).trans rfl; have hcz32_1 : w29.cell? ⟨gb7325, 1, none⟩ = some (.int .i64 ((rd_T37 l1 x33_2).f1)) := (blk_cell BK7325.out 1).trans rfl; have hcz32_2 : w29.cell? ⟨gb7325, 2, none⟩ = some (.int .i64 ((rd_T37 l1 x33_2).f2)) := (blk_cell BK7325.out 2).trans rfl; have hfz32_0 := blk_frozen BK7325.out 0; have hfz32_1 := blk_frozen BK7325.out 1; have hfz32_2 := blk_frozen BK7325.out 2))
                  go_roundg k3
                  case measure => have := HJ4.out; have := HK2.out; have := HK3.out; omega
                  case rel => exact ⟨(wrap64 (x42_3 + 1)), (by first | rfl | (simp; done) | (simp [*]; done)), H', ⟨by have := HJ4.out; have := HK2.out; have := HK3.out; omega⟩, ⟨by (with_reducible repeat (first | refine blk_drewN ?_ _ | refine blk_drew ?_ | refine blk_alloc ?_ _)); refine blk_far ?_ NB7325_7331.out _; (with_reducible repeat (first | refine blk_drewN ?_ _ | refine blk_drew ?_ | refine blk_alloc ?_ _)); refine blk_far ?_ NB7325_7331.out _; (with_reducible repeat (first | refine blk_drewN ?_ _ | refine blk_drew ?_ | refine blk_alloc ?_ _)); refine blk_far ?_ NB7325_7331.out _; (with_reducible repeat (first | refine blk_drewN ?_ _ | refine blk_drew ?_ | refine blk_alloc ?_ _)); exact BK7325.out⟩, ⟨by repeat (first | (with_reducible first | exact HB.out | apply below_alloc | apply pw_below_drewN | apply below_drew1 | refine below_set ?_ GE7325.out | refine below_set ?_ GE7331.out) | exact HB.out)⟩⟩
                ·rw [if_neg c23] at H
                 have c23b0 : decide (((rd_T37 l1 x33_2).f0) < (wrap64 (((rd_T37 y7326 x42_3).f0) + ((rd_T37 y7326 x42_3).f1)))) = false := decide_eq_false c23
                 clear c23
                 have H' := Aside0.mk H
                 clear H
                 have p7330 : 0 ≤ (x42_3 : Int) := of_decide_eq_true (by first | (with_reducible assumption) | assumption)
                 have q7330 : x42_3 < (y7326.length : Int) := of_decide_eq_true (by first | (with_reducible assumption) | assumption)
                 obtain ⟨ad7330, e7330, hx7330_0, hx7330_1, hx7330_2⟩ := at_T37 HR7329.out x42_3 p7330 q7330
                 obtain rfl : ad7324 = ad7330 := (by injection e7330)
                 replace hx7330_0 := (HB.out.cell (World.block_lt_of_cell? w _ hx7330_0)).trans hx7330_0
                 replace hx7330_1 := (HB.out.cell (World.block_lt_of_cell? w _ hx7330_1)).trans hx7330_1
                 replace hx7330_2 := (HB.out.cell (World.block_lt_of_cell? w _ hx7330_2)).trans hx7330_2
                 replace p7330 := eq_true p7330
                 replace q7330 := eq_true q7330
                 go_wp2_with (first | ((with_reducible refine HOpen.gate_append ?_); simp only [List.cons_append, List.nil_append]) | ((with_reducible refine gate_dst (N := 8) rfl ?_); (try (refine gate_guard (by rfl) ?_; dsimp only)); refine box_event ?hg (N := 8) ?hd (cs := #[.int .i64 0, .int .i64 0, .int .i64 0]) (t := 37) ?hr ?_; (case hd => rfl); (case hg => rfl); (case hr => first | (go_simp; done) | (go_simp; rfl)); intro gb7331 hg w33 hbox hb; have n0_ := Aside0.mk (blk_below (g := gb7325) (o := .cells #[.int .i64 ((rd_T37 l1 x33_2).f0), .int .i64 ((rd_T37 l1 x33_2).f1), .int .i64 ((rd_T37 l1 x33_2).f2)] 37 (0, 0)) (by (with_reducible repeat (first | refine blk_drewN ?_ _ | refine blk_drew ?_ | refine blk_alloc ?_ _)); exact BK7325.out) hb); have n1_ := Aside0.mk (below_step (by repeat (first | (with_reducible first | exact HB.out | apply below_alloc | apply pw_below_drewN | apply below_drew1 | refine below_set ?_ GE7325.out) | exact HB.out)) hb); have n2_ := Aside0.mk (hbox); have n3_ := Aside0.mk ((by rw [hg]; exact (below_size (by repeat (first | (with_reducible first | exact HB.out | apply below_alloc | apply pw_below_drewN | apply below_drew1 | refine below_set ?_ GE7325.out) | exact HB.out))) : w.heap.size ≤ gb7331)); have n4_ := Aside0.mk ((by rw [hg]; exact (below_size (by repeat (first | (with_reducible first | exact HB.out | apply below_alloc | apply pw_below_drewN | apply below_drew1 | refine below_set ?_ GE7325.out) | exact HB.out))) : w.heap.size ≤ gb7331)); have n5_ := Aside0.mk ((by rw [hg]; exact Nat.ne_of_lt (blk_lt (g := gb7325) (o := .cells #[.int .i64 ((rd_T37 l1 x33_2).f0), .int .i64 ((rd_T37 l1 x33_2).f1), .int .i64 ((rd_T37 l1 x33_2).f2)] 37 (0, 0)) (by (with_reducible repeat (first | refine blk_drewN ?_ _ | refine blk_drew ?_ | refine blk_alloc ?_ _)); exact BK7325.out)) : gb7325 ≠ gb7331)); have n6_ := Aside0.mk ((by rw [hg]; exact Nat.ne_of_gt (blk_lt (g := gb7325) (o := .cells #[.int .i64 ((rd_T37 l1 x33_2).f0), .int .i64 ((rd_T37 l1 x33_2).f1), .int .i64 ((rd_T37 l1 x33_2).f2)] 37 (0, 0)) (by (with_reducible repeat (first | refine blk_drewN ?_ _ | refine blk_drew ?_ | refine blk_alloc ?_ _)); exact BK7325.out)) : gb7331 ≠ gb7325)); clear BK7325; clear HB; have BK7325 := n0_; have HB := n1_; have BK7331 := n2_; have GW7331 := n3_; have GE7331 := n4_; have NB7325_7331 := n5_; have NB7331_7325 := n6_; clear n0_ n1_ n2_ n3_ n4_ n5_ n6_; clear hb hbox hg; have hnb34 := NB7331_7325.out; have hnc34 := NB7325_7331.out; have hcz35_0 : w33.cell? ⟨gb7331, 0, none⟩ = some (.int .i64 0) := (blk_cell BK7331.out 0).trans rfl; have hcz35_1 : w33.cell? ⟨gb7331, 1, none⟩ = some (.int .i64 0) := (blk_cell BK7331.out 1).trans rfl; have hcz35_2 : w33.cell? ⟨gb7331, 2, none⟩ = some (.int .i64 0) := (blk_cell BK7331.out 2).trans rfl; have hfz35_0 := blk_frozen BK7331.out 0; have hfz35_1 := blk_frozen BK7331.out 1; have hfz35_2 := blk_frozen BK7331.out 2; have hcz36_0 : w33.cell? ⟨gb7325, 0, none⟩ = some (.int .i64 ((rd_T37 l1 x33_2).f0)) := (blk_cell BK7325.out 0).trans rfl; have hcz36_1 : w33.cell? ⟨gb7325, 1, none⟩ = some (.int .i64 ((rd_T37 l1 x33_2).f1)) := (blk_cell BK7325.out 1).trans rfl; have hcz36_2 : w33.cell? ⟨gb7325, 2, none⟩ = some (.int .i64 ((rd_T37 l1 x33_2).f2)) := (blk_cell BK7325.out 2).trans rfl; have hfz36_0 := blk_frozen BK7325.out 0; have hfz36_1 := blk_frozen BK7325.out 1; have hfz36_2 := blk_frozen BK7325.out 2))
                 go_roundg k3
                 case measure => have := HJ4.out; have := HK2.out; have := HK3.out; omega
                 case rel => exact ⟨(wrap64 (x42_3 + 1)), (by first | rfl | (simp; done) | (simp [*]; done)), H', ⟨by have := HJ4.out; have := HK2.out; have := HK3.out; omega⟩, ⟨by (with_reducible repeat (first | refine blk_drewN ?_ _ | refine blk_drew ?_ | refine blk_alloc ?_ _)); refine blk_far ?_ NB7325_7331.out _; (with_reducible repeat (first | refine blk_drewN ?_ _ | refine blk_drew ?_ | refine blk_alloc ?_ _)); refine blk_far ?_ NB7325_7331.out _; (with_reducible repeat (first | refine blk_drewN ?_ _ | refine blk_drew ?_ | refine blk_alloc ?_ _)); refine blk_far ?_ NB7325_7331.out _; (with_reducible repeat (first | refine blk_drewN ?_ _ | refine blk_drew ?_ | refine blk_alloc ?_ _)); exact BK7325.out⟩, ⟨by repeat (first | (with_reducible first | exact HB.out | apply below_alloc | apply pw_below_drewN | apply below_drew1 | refine below_set ?_ GE7325.out | refine below_set ?_ GE7331.out) | exact HB.out)⟩⟩
               ·rw [if_neg c22] at H
                exact absurd H (by simp)
              ·rw [if_neg c21] at H
               exact absurd H (by simp)
             ·rw [if_neg c20] at H
              have c20b0 : decide (x42_3 < (y7326.length : Int)) = false := decide_eq_false c20
              clear c20
              have H' := Aside0.mk H
              clear H
              go_wp2
              go_roundg k3
              case measure => have := HJ4.out; have := HK2.out; have := HK3.out; omega
              case rel => exact ⟨(wrap64 (x33_2 + 1)), (by first | rfl | (simp; done) | (simp [*]; done)), H', ⟨by have := HJ4.out; have := HK2.out; have := HK3.out; omega⟩, ⟨by repeat (first | (with_reducible first | exact HB.out | apply below_alloc | apply pw_below_drewN | apply below_drew1 | refine below_set ?_ GE7325.out) | exact HB.out)⟩⟩
          ·rw [if_neg c15] at H
           exact absurd H (by simp)
         ·rw [if_neg c13] at H
          exact absurd H (by simp)
        ·rw [if_neg c12] at H
         exact absurd H (by simp)
       ·rw [if_neg c11] at H
        have c11b0 : decide (x33_2 < (l1.length : Int)) = false := decide_eq_false c11
        clear c11
        replace H := Option.bind_eq_some_iff.mp H
        obtain ⟨⟨t7332, t7333⟩, A370, H⟩ := H
        replace H : (if t7333 = 0 then ((elevator_Way.f k2 a0 t7332).bind fun bt7336 => ((elevator_Runs.f k2 t7332).bind fun bt7338 => (caulklaw40_ElevatorFar.l2 k2 l1 bt7336.1 bt7336.2 bt7338.1 bt7338.2 0 0 l1 (l1.length : Int) 0))) else (some (t7333 == 1))) = some r := H
        have A37 := Aside0.mk A370
        clear A370
        by_cases c38 : t7333 = 0
        ·rw [if_pos c38] at H
         have c38b0 : (t7333 == 0) = true := beq_iff_eq.mpr c38
         have c38b1 : (t7333 != 0) = false := bne_eq_false_iff_eq.mpr c38
         clear c38
         replace H := Option.bind_eq_some_iff.mp H
         obtain ⟨⟨t7336, t7337⟩, A390, H⟩ := H
         replace H : ((elevator_Runs.f k2 t7332).bind fun bt7338 => (caulklaw40_ElevatorFar.l2 k2 l1 t7336 t7337 bt7338.1 bt7338.2 0 0 l1 (l1.length : Int) 0)) = some r := H
         have A39 := Aside0.mk A390
         clear A390
         replace H := Option.bind_eq_some_iff.mp H
         obtain ⟨⟨t7338, t7339⟩, A400, H⟩ := H
         replace H : (caulklaw40_ElevatorFar.l2 k2 l1 t7336 t7337 t7338 t7339 0 0 l1 (l1.length : Int) 0) = some r := H
         have A40 := Aside0.mk A400
         clear A400
         have H' := Aside0.mk H
         clear H
         go_wp2_with (first | ((with_reducible refine HOpen.gate_append ?_); simp only [List.cons_append, List.nil_append]) | ((with_reducible refine gate_callee (f := 14) rfl ?_); refine goesL_ (some 69) rfl rfl Try.func14 (by kernel_rfl) rfl #[.int .i64 a0, .slice A1 l1.length c1] rfl (by (try simp only [List.map_toArray, List.map_cons, List.map_nil]); first | done | rfl | (simp only [List.length_drop, List.length_take]; rfl)) ?_; (with_reducible refine (elevator_Order.calls k2 a0 _ _ l1 t7332 t7333 _ ?side1 ?side2 A37.out).mono ?_); (case side1 => repeat (first | exact (Kd.C_below HR1.out HB.out) | (with_reducible refine Kd.C_alloc ?_ _) | (with_reducible refine Kd.C_drewN ?_ _) | (with_reducible refine Kd.C_drew ?_))); (case side2 => exact HC1.out); rintro e w41 ⟨v7334, rfl, ho0, hb⟩; refine ⟨_, rfl, ?_⟩; have n0_ := Aside0.mk (Kd.R_lower ho0 (below_size (by repeat (first | (with_reducible first | exact HB.out | apply below_alloc | apply pw_below_drewN | apply below_drew1) | exact HB.out)))); have n1_ := Aside0.mk (below_step (by repeat (first | (with_reducible first | exact HB.out | apply below_alloc | apply pw_below_drewN | apply below_drew1) | exact HB.out)) hb); clear HB; have HO7335 := n0_; have HB := n1_; clear n0_ n1_; (try clear hb); (try clear hb2); (try clear hk); (try clear hi); (try clear ho0); obtain ⟨Ao42, co42, eo42⟩ := Kd.R_slice HO7335.out; subst eo42) | ((with_reducible refine gate_callee (f := 18) rfl ?_); refine goesL_ (some 79) rfl rfl Try.func18 (by kernel_rfl) rfl #[.int .i64 a0, .slice Ao42 t7332.length co42] rfl (by (try simp only [List.map_toArray, List.map_cons, List.map_nil]); first | done | rfl | (simp only [List.length_drop, List.length_take]; rfl)) ?_; (with_reducible refine (elevator_Way.calls k2 a0 _ _ t7332 t7336 t7337 _ ?side1 ?side2 A39.out).mono ?_); (case side1 => repeat (first | exact (Kd.R_reads' HO7335.out).2.2 | (with_reducible refine Kd.C_alloc ?_ _) | (with_reducible refine Kd.C_drewN ?_ _) | (with_reducible refine Kd.C_drew ?_))); (case side2 => exact (Kd.R_reads' HO7335.out).2.1); rintro e w43 ⟨rfl, hb⟩; refine ⟨_, rfl, ?_⟩; have n0_ := Aside0.mk (Kd.R_below (by (with_reducible repeat (first | apply Kd.R_alloc | apply Kd.R_drewN | apply Kd.R_drew)); exact HO7335.out) hb); have n1_ := Aside0.mk (below_step (by repeat (first | (with_reducible first | exact HB.out | apply below_alloc | apply pw_below_drewN | apply below_drew1) | exact HB.out)) hb); clear HO7335; clear HB; have HO7335 := n0_; have HB := n1_; clear n0_ n1_; (try clear hb); (try clear hb2); (try clear hk); (try clear hi)) | ((with_reducible refine gate_callee (f := 16) rfl ?_); refine goesL_ (some 84) rfl rfl Try.func16 (by kernel_rfl) rfl #[.slice Ao42 t7332.length co42] rfl (by (try simp only [List.map_toArray, List.map_cons, List.map_nil]); first | done | rfl | (simp only [List.length_drop, List.length_take]; rfl)) ?_; (with_reducible refine (elevator_Runs.calls k2 _ _ t7332 t7338 t7339 _ ?side1 ?side2 A40.out).mono ?_); (case side1 => repeat (first | exact (Kd.R_reads' HO7335.out).2.2 | (with_reducible refine Kd.C_alloc ?_ _) | (with_reducible refine Kd.C_drewN ?_ _) | (with_reducible refine Kd.C_drew ?_))); (case side2 => exact (Kd.R_reads' HO7335.out).2.1); rintro e w44 ⟨v7340, rfl, ho0, hb⟩; refine ⟨_, rfl, ?_⟩; have n0_ := Aside0.mk (Kd.R_below (by (with_reducible repeat (first | apply Kd.R_alloc | apply Kd.R_drewN | apply Kd.R_drew)); exact HO7335.out) hb); have n1_ := Aside0.mk (Kd.R_lower ho0 (below_size (by repeat (first | (with_reducible first | exact HB.out | apply below_alloc | apply pw_below_drewN | apply below_drew1) | exact HB.out)))); have n2_ := Aside0.mk (below_step (by repeat (first | (with_reducible first | exact HB.out | apply below_alloc | apply pw_below_drewN | apply below_drew1) | exact HB.out)) hb); clear HO7335; clear HB; have HO7335 := n0_; have HO7341 := n1_; have HB := n2_; clear n0_ n1_ n2_; (try clear hb); (try clear hb2); (try clear hk); (try clear hi); (try clear ho0)))
         (try simp only [Act.put, List.setIfInBounds_toArray, List.set_cons_zero, List.set_cons_succ])
         go_loopg [15, 89] k2 (fun kq v15 v89 w' => ∃ (x15_3 : Int) (x89_3 : Int), v15 = .int .i64 x15_3 ∧ v89 = .int .i64 x89_3 ∧ Aside0 (caulklaw40_ElevatorFar.l2 kq l1 t7336 t7337 t7338 t7339 x15_3 0 l1 (l1.length : Int) x89_3 = some r) ∧ Aside0 (kq ≤ k2) ∧ Aside0 (Kd.R k39 39 w' w.heap.size (fun _ => True) v7340 t7338) ∧ Aside0 (Below w.heap.size w w'))
         case atStart => exact ⟨(0), (0), (by first | rfl | (simp; done) | (simp [*]; done)), (by first | rfl | (simp; done) | (simp [*]; done)), H', ⟨Nat.le_refl _⟩, ⟨by (with_reducible repeat (first | apply Kd.R_alloc | apply Kd.R_drewN | apply Kd.R_drew)); exact HO7341.out⟩, ⟨by repeat (first | (with_reducible first | exact HB.out | apply below_alloc | apply pw_below_drewN | apply below_drew1) | exact HB.out)⟩⟩
         case round =>
          clear H'
          try clear c1
          try clear q1
          try clear c2
          try clear p2
          try clear c3
          try clear c4
          try clear c5
          try clear p6
          try clear c7
          try clear c7b0
          try clear c7b1
          try clear p7
          try clear q7
          try clear hx7
          try clear c10
          try clear c11
          try clear c11b0
          try clear c12
          try clear c12b0
          try clear c13
          try clear c13b0
          try clear c14
          try clear c14b0
          try clear c15
          try clear c15b0
          try clear c15b1
          try clear c16
          try clear c18
          try clear q19
          try clear c20
          try clear c20b0
          try clear c21
          try clear c21b0
          try clear c22
          try clear c22b0
          try clear c23
          try clear c23b0
          try clear c24
          try clear c24b0
          try clear c26
          try clear c30
          try clear c34
          try clear c38
          try clear c38b0
          try clear c38b1
          try clear hcz17_0
          try clear hcz17_1
          try clear hcz17_2
          try clear hcz27_0
          try clear hcz27_1
          try clear hcz27_2
          try clear hcz28_0
          try clear hcz28_1
          try clear hcz28_2
          try clear hcz31_0
          try clear hcz31_1
          try clear hcz31_2
          try clear hcz32_0
          try clear hcz32_1
          try clear hcz32_2
          try clear hcz35_0
          try clear hcz35_1
          try clear hcz35_2
          try clear hcz36_0
          try clear hcz36_1
          try clear hcz36_2
          try clear hfz17_0
          try clear hfz17_1
          try clear hfz17_2
          try clear hfz27_0
          try clear hfz27_1
          try clear hfz27_2
          try clear hfz28_0
          try clear hfz28_1
          try clear hfz28_2
          try clear hfz31_0
          try clear hfz31_1
          try clear hfz31_2
          try clear hfz32_0
          try clear hfz32_1
          try clear hfz32_2
          try clear hfz35_0
          try clear hfz35_1
          try clear hfz35_2
          try clear hfz36_0
          try clear hfz36_1
          try clear hfz36_2
          try clear hx7324_0
          try clear hx7324_1
          try clear hx7324_2
          try clear hx7330_0
          try clear hx7330_1
          try clear hx7330_2
          try clear p2
          try clear p7
          try clear p7324
          try clear p7330
          try clear q1
          try clear q19
          try clear q7
          try clear q7324
          try clear q7330
          obtain ⟨x15_3, x89_3, rfl, rfl, HA, HK3, HO_13, HB⟩ := hrel
          cases gk with
          | zero => exact absurd HA.out (by simp [caulklaw40_ElevatorFar.l2])
          | succ k3 =>
           have H := HA.out
           clear HA
           simp only [caulklaw40_ElevatorFar.l2] at H
           by_cases c45 : x89_3 < (l1.length : Int)
           ·rw [if_pos c45] at H
            have c45b0 : decide (x89_3 < (l1.length : Int)) = true := decide_eq_true c45
            clear c45
            by_cases c46 : 0 ≤ x89_3
            ·rw [if_pos c46] at H
             have c46b0 : decide (0 ≤ x89_3) = true := decide_eq_true c46
             clear c46
             by_cases c47 : x89_3 < (l1.length : Int)
             ·rw [if_pos c47] at H
              have c47b0 : decide (x89_3 < (l1.length : Int)) = true := decide_eq_true c47
              clear c47
              have H' := Aside0.mk H
              clear H
              have p7342 : 0 ≤ (x89_3 : Int) := of_decide_eq_true (by first | (with_reducible assumption) | assumption)
              have q7342 : x89_3 < (l1.length : Int) := of_decide_eq_true (by first | (with_reducible assumption) | assumption)
              obtain ⟨ad7342, e7342, hx7342_0, hx7342_1, hx7342_2⟩ := at_T37 HR1.out x89_3 p7342 q7342
              cases e7342
              replace hx7342_0 := (HB.out.cell (World.block_lt_of_cell? w _ hx7342_0)).trans hx7342_0
              replace hx7342_1 := (HB.out.cell (World.block_lt_of_cell? w _ hx7342_1)).trans hx7342_1
              replace hx7342_2 := (HB.out.cell (World.block_lt_of_cell? w _ hx7342_2)).trans hx7342_2
              replace p7342 := eq_true p7342
              replace q7342 := eq_true q7342
              go_wp2_with (first | ((with_reducible refine HOpen.gate_append ?_); simp only [List.cons_append, List.nil_append]) | ((with_reducible refine gate_dst (N := 18) rfl ?_); (try (refine gate_guard (by rfl) ?_; dsimp only)); refine box_event ?hg (N := 18) ?hd (cs := #[.int .i64 0, .int .i64 0, .int .i64 0]) (t := 37) ?hr ?_; (case hd => rfl); (case hg => rfl); (case hr => first | (go_simp; done) | (go_simp; rfl)); intro gb7343 hg w48 hbox hb; have n0_ := Aside0.mk (Kd.R_below (by (with_reducible repeat (first | apply Kd.R_alloc | apply Kd.R_drewN | apply Kd.R_drew)); exact HO_13.out) hb); have n1_ := Aside0.mk (below_step (by repeat (first | (with_reducible first | exact HB.out | apply below_alloc | apply pw_below_drewN | apply below_drew1) | exact HB.out)) hb); have n2_ := Aside0.mk (hbox); have n3_ := Aside0.mk ((by rw [hg]; exact (below_size (by repeat (first | (with_reducible first | exact HB.out | apply below_alloc | apply pw_below_drewN | apply below_drew1) | exact HB.out))) : w.heap.size ≤ gb7343)); have n4_ := Aside0.mk ((by rw [hg]; exact (below_size (by repeat (first | (with_reducible first | exact HB.out | apply below_alloc | apply pw_below_drewN | apply below_drew1) | exact HB.out))) : w.heap.size ≤ gb7343)); clear HO_13; clear HB; have HO_13 := n0_; have HB := n1_; have BK7343 := n2_; have GW7343 := n3_; have GE7343 := n4_; clear n0_ n1_ n2_ n3_ n4_; clear hb hbox hg; have hcz49_0 : w48.cell? ⟨gb7343, 0, none⟩ = some (.int .i64 0) := (blk_cell BK7343.out 0).trans rfl; have hcz49_1 : w48.cell? ⟨gb7343, 1, none⟩ = some (.int .i64 0) := (blk_cell BK7343.out 1).trans rfl; have hcz49_2 : w48.cell? ⟨gb7343, 2, none⟩ = some (.int .i64 0) := (blk_cell BK7343.out 2).trans rfl; have hfz49_0 := blk_frozen BK7343.out 0; have hfz49_1 := blk_frozen BK7343.out 1; have hfz49_2 := blk_frozen BK7343.out 2))
              go_roundg k3
              case measure => have := HJ4.out; have := HK2.out; have := HK3.out; omega
              case rel => exact ⟨(wrap64 (x15_3 + ((rd_T37 l1 x89_3).f1))), (wrap64 (x89_3 + 1)), (by first | rfl | (simp; done) | (simp [*]; done)), (by first | rfl | (simp; done) | (simp [*]; done)), H', ⟨by have := HJ4.out; have := HK2.out; have := HK3.out; omega⟩, ⟨by (with_reducible repeat (first | apply Kd.R_alloc | apply Kd.R_drewN | apply Kd.R_drew)); exact Kd.R_mono (Kd.R_far (p := ⟨gb7343, 2, none⟩) (Kd.R_far (p := ⟨gb7343, 1, none⟩) (Kd.R_far (p := ⟨gb7343, 0, none⟩) (Kd.R_types HO_13.out BK7343.out (by decide)) (fun _ hk => hk.2) (.int .i64 ((rd_T37 l1 x89_3).f0))) (fun _ hk => hk.2) (.int .i64 ((rd_T37 l1 x89_3).f1))) (fun _ hk => hk.2) (.int .i64 ((rd_T37 l1 x89_3).f2))) (fun _ hk => trivial)⟩, ⟨by repeat (first | (with_reducible first | exact HB.out | apply below_alloc | apply pw_below_drewN | apply below_drew1 | refine below_set ?_ GE7343.out) | exact HB.out)⟩⟩
             ·rw [if_neg c47] at H
              exact absurd H (by simp)
            ·rw [if_neg c46] at H
             exact absurd H (by simp)
           ·rw [if_neg c45] at H
            have c45b0 : decide (x89_3 < (l1.length : Int)) = false := decide_eq_false c45
            clear c45
            have H' := Aside0.mk H
            clear H
            obtain ⟨Ao50, co50, eo50⟩ := Kd.R_slice HO_13.out
            subst eo50
            go_wp2
            go_loopg [16, 100] k3 (fun kq v16 v100 w' => ∃ (x16_4 : Int) (x100_4 : Int), v16 = .int .i64 x16_4 ∧ v100 = .int .i64 x100_4 ∧ Aside0 (caulklaw40_ElevatorFar.l3 kq l1 t7336 t7337 t7338 t7339 x15_3 x16_4 t7338 (t7338.length : Int) x100_4 = some r) ∧ Aside0 (kq ≤ k3) ∧ Aside0 (Kd.R k39 39 w' w.heap.size (fun _ => True) (.slice Ao50 t7338.length co50) t7338) ∧ Aside0 (Kd.R k39 39 w' w.heap.size (fun _ => True) (.slice Ao50 t7338.length co50) t7338) ∧ Aside0 (Below w.heap.size w w'))
            case atStart => exact ⟨(0), (0), (by first | rfl | (simp; done) | (simp [*]; done)), (by first | rfl | (simp; done) | (simp [*]; done)), H', ⟨Nat.le_refl _⟩, ⟨by (with_reducible repeat (first | apply Kd.R_alloc | apply Kd.R_drewN | apply Kd.R_drew)); exact HO_13.out⟩, ⟨by (with_reducible repeat (first | apply Kd.R_alloc | apply Kd.R_drewN | apply Kd.R_drew)); exact HO_13.out⟩, ⟨by repeat (first | (with_reducible first | exact HB.out | apply below_alloc | apply pw_below_drewN | apply below_drew1) | exact HB.out)⟩⟩
            case round =>
             clear H'
             try clear c1
             try clear q1
             try clear c2
             try clear p2
             try clear c3
             try clear c4
             try clear c5
             try clear p6
             try clear c7
             try clear c7b0
             try clear c7b1
             try clear p7
             try clear q7
             try clear hx7
             try clear c10
             try clear c11
             try clear c11b0
             try clear c12
             try clear c12b0
             try clear c13
             try clear c13b0
             try clear c14
             try clear c14b0
             try clear c15
             try clear c15b0
             try clear c15b1
             try clear c16
             try clear c18
             try clear q19
             try clear c20
             try clear c20b0
             try clear c21
             try clear c21b0
             try clear c22
             try clear c22b0
             try clear c23
             try clear c23b0
             try clear c24
             try clear c24b0
             try clear c26
             try clear c30
             try clear c34
             try clear c38
             try clear c38b0
             try clear c38b1
             try clear c45
             try clear c45b0
             try clear c46
             try clear c46b0
             try clear c47
             try clear c47b0
             try clear hcz17_0
             try clear hcz17_1
             try clear hcz17_2
             try clear hcz27_0
             try clear hcz27_1
             try clear hcz27_2
             try clear hcz28_0
             try clear hcz28_1
             try clear hcz28_2
             try clear hcz31_0
             try clear hcz31_1
             try clear hcz31_2
             try clear hcz32_0
             try clear hcz32_1
             try clear hcz32_2
             try clear hcz35_0
             try clear hcz35_1
             try clear hcz35_2
             try clear hcz36_0
             try clear hcz36_1
             try clear hcz36_2
             try clear hcz49_0
             try clear hcz49_1
             try clear hcz49_2
             try clear hfz17_0
             try clear hfz17_1
             try clear hfz17_2
             try clear hfz27_0
             try clear hfz27_1
             try clear hfz27_2
             try clear hfz28_0
             try clear hfz28_1
             try clear hfz28_2
             try clear hfz31_0
             try clear hfz31_1
             try clear hfz31_2
             try clear hfz32_0
             try clear hfz32_1
             try clear hfz32_2
             try clear hfz35_0
             try clear hfz35_1
             try clear hfz35_2
             try clear hfz36_0
             try clear hfz36_1
             try clear hfz36_2
             try clear hfz49_0
             try clear hfz49_1
             try clear hfz49_2
             try clear hx7324_0
             try clear hx7324_1
             try clear hx7324_2
             try clear hx7330_0
             try clear hx7330_1
             try clear hx7330_2
             try clear hx7342_0
             try clear hx7342_1
             try clear hx7342_2
             try clear p2
             try clear p6
             try clear p7
             try clear p7324
             try clear p7330
             try clear p7342
             try clear q1
             try clear q19
             try clear q7
             try clear q7324
             try clear q7330
             try clear q7342
             obtain ⟨x16_4, x100_4, rfl, rfl, HA, HK4, HO_13, HO_98, HB⟩ := hrel
             cases gk with
             | zero => exact absurd HA.out (by simp [caulklaw40_ElevatorFar.l3])
             | succ k4 =>
              have H := HA.out
              clear HA
              simp only [caulklaw40_ElevatorFar.l3] at H
              by_cases c51 : x100_4 < (t7338.length : Int)
              ·rw [if_pos c51] at H
               have c51b0 : decide (x100_4 < (t7338.length : Int)) = true := decide_eq_true c51
               clear c51
               by_cases c52 : 0 ≤ x100_4
               ·rw [if_pos c52] at H
                have c52b0 : decide (0 ≤ x100_4) = true := decide_eq_true c52
                clear c52
                by_cases c53 : x100_4 < (t7338.length : Int)
                ·rw [if_pos c53] at H
                 have c53b0 : decide (x100_4 < (t7338.length : Int)) = true := decide_eq_true c53
                 clear c53
                 have H' := Aside0.mk H
                 clear H
                 have p7344 : 0 ≤ (x100_4 : Int) := of_decide_eq_true (by first | (with_reducible assumption) | assumption)
                 have q7344 : x100_4 < (t7338.length : Int) := of_decide_eq_true (by first | (with_reducible assumption) | assumption)
                 obtain ⟨ad7344, e7344, hx7344_0, hx7344_1⟩ := at_T39 (Kd.R_reads' HO_98.out).2.2 x100_4 p7344 q7344
                 cases e7344
                 replace p7344 := eq_true p7344
                 replace q7344 := eq_true q7344
                 go_wp2_with (first | ((with_reducible refine HOpen.gate_append ?_); simp only [List.cons_append, List.nil_append]) | ((with_reducible refine gate_dst (N := 20) rfl ?_); (try (refine gate_guard (by rfl) ?_; dsimp only)); refine box_event ?hg (N := 20) ?hd (cs := #[.int .i64 0, .int .i64 0]) (t := 39) ?hr ?_; (case hd => rfl); (case hg => rfl); (case hr => first | (go_simp; done) | (go_simp; rfl)); intro gb7345 hg w54 hbox hb; have n0_ := Aside0.mk (Kd.R_below (Kd.R_elderB (by (with_reducible repeat (first | apply Kd.R_alloc | apply Kd.R_drewN | apply Kd.R_drew)); exact HO_13.out) gb7345 (Nat.le_of_eq hg.symm)) hb); have n1_ := Aside0.mk (Kd.R_below (Kd.R_elderB (by (with_reducible repeat (first | apply Kd.R_alloc | apply Kd.R_drewN | apply Kd.R_drew)); exact HO_98.out) gb7345 (Nat.le_of_eq hg.symm)) hb); have n2_ := Aside0.mk (below_step (by repeat (first | (with_reducible first | exact HB.out | apply below_alloc | apply pw_below_drewN | apply below_drew1) | exact HB.out)) hb); have n3_ := Aside0.mk (hbox); have n4_ := Aside0.mk ((by rw [hg]; exact (below_size (by repeat (first | (with_reducible first | exact HB.out | apply below_alloc | apply pw_below_drewN | apply below_drew1) | exact HB.out))) : w.heap.size ≤ gb7345)); have n5_ := Aside0.mk ((by rw [hg]; exact (below_size (by repeat (first | (with_reducible first | exact HB.out | apply below_alloc | apply pw_below_drewN | apply below_drew1) | exact HB.out))) : w.heap.size ≤ gb7345)); clear HO_13; clear HO_98; clear HB; have HO_13 := n0_; have HO_98 := n1_; have HB := n2_; have BK7345 := n3_; have GW7345 := n4_; have GE7345 := n5_; clear n0_ n1_ n2_ n3_ n4_ n5_; clear hb hbox hg; have hcz55_0 : w54.cell? ⟨gb7345, 0, none⟩ = some (.int .i64 0) := (blk_cell BK7345.out 0).trans rfl; have hcz55_1 : w54.cell? ⟨gb7345, 1, none⟩ = some (.int .i64 0) := (blk_cell BK7345.out 1).trans rfl; have hfz55_0 := blk_frozen BK7345.out 0; have hfz55_1 := blk_frozen BK7345.out 1))
                 go_roundg k4
                 case measure => have := HJ4.out; have := HK2.out; have := HK3.out; have := HK4.out; omega
                 case rel => exact ⟨(wrap64 (x16_4 + (wrap64 (((rd_T39 t7338 x100_4).f1) - ((rd_T39 t7338 x100_4).f0))))), (wrap64 (x100_4 + 1)), (by first | rfl | (simp; done) | (simp [*]; done)), (by first | rfl | (simp; done) | (simp [*]; done)), H', ⟨by have := HJ4.out; have := HK2.out; have := HK3.out; have := HK4.out; omega⟩, ⟨by (with_reducible repeat (first | apply Kd.R_alloc | apply Kd.R_drewN | apply Kd.R_drew)); exact Kd.R_mono (Kd.R_far (p := ⟨gb7345, 1, none⟩) (Kd.R_far (p := ⟨gb7345, 0, none⟩) (Kd.R_mono HO_13.out (fun k_ hk => (⟨hk, hk.2⟩ : _ ∧ k_ ≠ gb7345))) (fun _ hk => hk.2) (.int .i64 ((rd_T39 t7338 x100_4).f0))) (fun _ hk => hk.2) (.int .i64 ((rd_T39 t7338 x100_4).f1))) (fun _ hk => trivial)⟩, ⟨by (with_reducible repeat (first | apply Kd.R_alloc | apply Kd.R_drewN | apply Kd.R_drew)); exact Kd.R_mono (Kd.R_far (p := ⟨gb7345, 1, none⟩) (Kd.R_far (p := ⟨gb7345, 0, none⟩) (Kd.R_mono HO_98.out (fun k_ hk => (⟨hk, hk.2⟩ : _ ∧ k_ ≠ gb7345))) (fun _ hk => hk.2) (.int .i64 ((rd_T39 t7338 x100_4).f0))) (fun _ hk => hk.2) (.int .i64 ((rd_T39 t7338 x100_4).f1))) (fun _ hk => trivial)⟩, ⟨by repeat (first | (with_reducible first | exact HB.out | apply below_alloc | apply pw_below_drewN | apply below_drew1 | refine below_set ?_ GE7345.out) | exact HB.out)⟩⟩
                ·rw [if_neg c53] at H
                 exact absurd H (by simp)
               ·rw [if_neg c52] at H
                exact absurd H (by simp)
              ·rw [if_neg c51] at H
               have c51b0 : decide (x100_4 < (t7338.length : Int)) = false := decide_eq_false c51
               clear c51
               by_cases c56 : t7337 = 0
               ·rw [if_pos c56] at H
                have c56b0 : (t7337 == 0) = true := beq_iff_eq.mpr c56
                have c56b1 : (t7337 != 0) = false := bne_eq_false_iff_eq.mpr c56
                clear c56
                by_cases c57 : t7336 ≤ 12288
                ·rw [if_pos c57] at H
                 have c57b0 : decide (t7336 ≤ 12288) = true := decide_eq_true c57
                 clear c57
                 by_cases c58 : t7339 = 0
                 ·rw [if_pos c58] at H
                  have c58b0 : (t7339 == 0) = true := beq_iff_eq.mpr c58
                  have c58b1 : (t7339 != 0) = false := bne_eq_false_iff_eq.mpr c58
                  clear c58
                  by_cases c59 : x16_4 = x15_3
                  ·rw [if_pos c59] at H
                   have c59b0 : (x16_4 == x15_3) = true := beq_iff_eq.mpr c59
                   have c59b1 : (x16_4 != x15_3) = false := bne_eq_false_iff_eq.mpr c59
                   clear c59
                   by_cases c60 : (t7338.length : Int) ≤ (l1.length : Int)
                   ·rw [if_pos c60] at H
                    have c60b0 : decide ((t7338.length : Int) ≤ (l1.length : Int)) = true := decide_eq_true c60
                    have c60b1 : decide (t7338.length ≤ l1.length) = true := decide_eq_true (Int.ofNat_le.mp c60)
                    clear c60
                    obtain rfl := Option.some.inj H
                    go_wp2
                    go_ret
                    exact ⟨by first | rfl | (simp [errW_none, errW_some] <;> rfl) | (simp [*, errW_none, errW_some] <;> rfl), by repeat (first | (with_reducible first | exact HB.out | apply below_alloc | apply pw_below_drewN | apply below_drew1) | exact HB.out)⟩
                   ·rw [if_neg c60] at H
                    have c60b0 : decide ((t7338.length : Int) ≤ (l1.length : Int)) = false := decide_eq_false c60
                    have c60b1 : decide (t7338.length ≤ l1.length) = false := decide_eq_false (fun h => c60 (Int.ofNat_le.mpr h))
                    clear c60
                    exact absurd ((Option.some.inj H).trans hrt.out) (by simp)
                  ·rw [if_neg c59] at H
                   have c59b0 : (x16_4 == x15_3) = false := beq_eq_false_iff_ne.mpr c59
                   have c59b1 : (x16_4 != x15_3) = true := bne_iff_ne.mpr c59
                   exact absurd ((Option.some.inj H).trans hrt.out) (by simp)
                 ·rw [if_neg c58] at H
                  have c58b0 : (t7339 == 0) = false := beq_eq_false_iff_ne.mpr c58
                  have c58b1 : (t7339 != 0) = true := bne_iff_ne.mpr c58
                  exact absurd ((Option.some.inj H).trans hrt.out) (by simp)
                ·rw [if_neg c57] at H
                 have c57b0 : decide (t7336 ≤ 12288) = false := decide_eq_false c57
                 clear c57
                 exact absurd ((Option.some.inj H).trans hrt.out) (by simp)
               ·rw [if_neg c56] at H
                have c56b0 : (t7337 == 0) = false := beq_eq_false_iff_ne.mpr c56
                have c56b1 : (t7337 != 0) = true := bne_iff_ne.mpr c56
                exact absurd ((Option.some.inj H).trans hrt.out) (by simp)
        ·rw [if_neg c38] at H
         have c38b0 : (t7333 == 0) = false := beq_eq_false_iff_ne.mpr c38
         have c38b1 : (t7333 != 0) = true := bne_iff_ne.mpr c38
         obtain rfl := Option.some.inj H
         go_wp2_with (first | ((with_reducible refine HOpen.gate_append ?_); simp only [List.cons_append, List.nil_append]) | ((with_reducible refine gate_callee (f := 14) rfl ?_); refine goesL_ (some 69) rfl rfl Try.func14 (by kernel_rfl) rfl #[.int .i64 a0, .slice A1 l1.length c1] rfl (by (try simp only [List.map_toArray, List.map_cons, List.map_nil]); first | done | rfl | (simp only [List.length_drop, List.length_take]; rfl)) ?_; (with_reducible refine (elevator_Order.calls k2 a0 _ _ l1 t7332 t7333 _ ?side1 ?side2 A37.out).mono ?_); (case side1 => repeat (first | exact (Kd.C_below HR1.out HB.out) | (with_reducible refine Kd.C_alloc ?_ _) | (with_reducible refine Kd.C_drewN ?_ _) | (with_reducible refine Kd.C_drew ?_))); (case side2 => exact HC1.out); rintro e w61 ⟨v7334, rfl, ho0, hb⟩; refine ⟨_, rfl, ?_⟩; have n0_ := Aside0.mk (Kd.R_lower ho0 (below_size (by repeat (first | (with_reducible first | exact HB.out | apply below_alloc | apply pw_below_drewN | apply below_drew1) | exact HB.out)))); have n1_ := Aside0.mk (below_step (by repeat (first | (with_reducible first | exact HB.out | apply below_alloc | apply pw_below_drewN | apply below_drew1) | exact HB.out)) hb); clear HB; have HO7335 := n0_; have HB := n1_; clear n0_ n1_; (try clear hb); (try clear hb2); (try clear hk); (try clear hi); (try clear ho0)))
         go_ret
         exact ⟨by first | rfl | (simp [errW_none, errW_some] <;> rfl) | (simp [*, errW_none, errW_some] <;> rfl), by repeat (first | (with_reducible first | exact HB.out | apply below_alloc | apply pw_below_drewN | apply below_drew1) | exact HB.out)⟩
 ·replace c4 := Bool.eq_false_iff.mpr c4
  subst c4
  have H1 : (some false) = some r := by rw [if_neg (show ¬ (false = true) by decide)] at H; exact H
  clear H
  have H := H1
  clear H1
  exact absurd ((Option.some.inj H).trans hrt.out) (by simp)

def caulklaw40_ElevatorFar.Pure : Prop := ∀ (a0 : Int) (l1 : List (S37)), (Lit.int .i64 a0).wf = true → (l1.length ≤ maxLen ∧ l1.length * 24 ≤ 140737488351232 ∧ ∀ z0 ∈ l1, wf37 z0) → ∃ k, caulklaw40_ElevatorFar.f k a0 l1 = some true
theorem caulklaw40_ElevatorFar.walk (P : caulklaw40_ElevatorFar.Pure) (a0 : Int) (A1 : Option Addr) (c1 : Nat) (l1 : List (S37)) (w : World) (hr1 : Kd.C k37 w A1 l1.length l1) (hc1 : l1.length ≤ c1) (hw0 : (Lit.int .i64 a0).wf = true) (hw1 : (l1.length ≤ maxLen ∧ l1.length * 24 ≤ 140737488351232 ∧ ∀ z0 ∈ l1, wf37 z0)) :
  Calls Try.prog 5 #[.int .i64 a0, .slice A1 l1.length c1] w fun e w' => e = .returned (.bool true) ∧ Below w.heap.size w w' := by
 obtain ⟨k, h⟩ := P a0 l1 hw0 hw1
 refine (caulklaw40_ElevatorFar.calls k a0 A1 c1 l1 true w hr1 hc1 ⟨rfl⟩ h).mono ?_
 rintro e w' ⟨rfl, hd⟩
 exact ⟨rfl, hd⟩

end Go.Proofs.Ytgahpdoiddhdaaa.HElev
